/- HashRoom, part 1 of 8: parts of its walks and laws, each true as it stands. -/
import Derived.Deep.CutBlock
import Derived.Deep.RegionHeld3
import Derived.DeepKeys4
import Derived.Laws.AppendOwnNone
import Derived.Laws.CopyOwn
import Derived.Lib.AppendZerosOnto
import Derived.Lib.Overlaps
import Derived.Lib.QuietBelow
import Derived.Maps.Ext
import Derived.Maps.OwnIn
import Derived.RangeFuncBound
import Derived.RangeFuncNested
import Derived.Shelf.Bytes.SlClone
import Derived.Shelf.Slices.Empties
import Derived.Shelf.Slices.Empties2
import Derived.Shelf.Slices.In.SortNone
import Derived.Shelf.Slices.Turned
import Derived.Shelf.SlicesE.Clone
import Derived.Shelf.Small.Bits
import Derived.Shelf.Small.Wraps
import Derived.Shelf.Sort.Plain
import Derived.Sort.OwnSortedInts
import Derived.Test.YtjjomjobllcleaaGreatAls
set_option maxHeartbeats 16000000
set_option maxRecDepth 100000
set_option linter.all false
namespace Go.Proofs.YtjjomjobllcleaaGreat
open Go.Proofs.Tryz
open List (replicate range)
open Go.RowKit Go.Shelf Go.Sort Go.Lib
section
open Go.Maps (Keyed)
def add_of_add(a:Addr)(i j:Nat):(a.add i).add j=a.add (i+j):=by
 unfold Addr.add;by_cases hi:i=0<;>by_cases hj:j=0<;>simp[hi,hj,XB]
def dP(b o j:Nat):(Addr.mk b o none).add j=⟨b,o+j,none⟩:=by
 unfold Addr.add;split<;>simp_all
def Row(w:Wo)(B b o:Nat)(xs:List Va):Prop:=
 b<B/\∀j u,xs[j]? =some u->w.cell? ⟨b,o+j,none⟩=some u
def Sl(w:Wo)(B size:Nat)(v:Va)(n:Nat)(xs:List Va):Prop:=
 xs.length=n*size/\∃A c,v= .slice A n c/\n<=c/\c<=maxLen/\(A=none->c=0)/\(0<n->∃b o,A=some ⟨b,o,none⟩/\Row w B b o xs)
def Jc(w:Wo)(xs:List Va)(t:TypeId):Row (w.alloc (.cells xs.toArray t)) (w.heap.size+1) w 0 xs:=
 ⟨XL _,fun j u hu=>by rw[QR,World.cell?_alloc_new];simpa using hu⟩
section
variable {w w' : Wo}{B B' size n b o : Nat}{v : Va}{xs : List Va}
def Row.keep(h:Row w B b o xs)(hk:∀p:Addr,p.block<B->w'.cell? p=w.cell? p):Row w' B b o xs:=
 ⟨h.1,fun j u hu=>(hk _ h.1).trans (h.2 j u hu)⟩
def Sl.keep(h:Sl w B size v n xs)(hk:∀p:Addr,p.block<B->w'.cell? p=w.cell? p):Sl w' B size v n xs:=by
 obtain⟨hl,A,c,hv,hc,hm,hz,hr⟩:=h;refine⟨hl,A,c,hv,hc,hm,hz,fun hn=> ?_⟩;obtain⟨b,o,hA,hr⟩:=hr hn;exact⟨b,o,hA,hr.keep hk⟩
def Sl.more(h:Sl w B size v n xs)(hB:B<=B'):Sl w B' size v n xs:=by
 obtain⟨hl,A,c,hv,hc,hm,hz,hr⟩:=h;refine⟨hl,A,c,hv,hc,hm,hz,fun hn=> ?_⟩;obtain⟨b,o,hA,hr⟩:=hr hn;exact⟨b,o,hA,Qn hr.1 hB,hr.2⟩
def O0(w:Wo)(B size:Nat):Sl w B size () 0 []:=⟨Sv,none,0,rfl,Qg _,Qp _,fun _=>rfl,fun h=>absurd h Mx⟩
def kT(hl:xs.length=n*size){c:Nat}(hc:n<=c)(hm:c<=maxLen)(hr:Row w B b o xs):Sl w B size (.slice (some ⟨b,o,none⟩) n c) n xs:=
 ⟨hl,_,c,rfl,hc,hm,(fun h=>by cases h),fun _=>⟨b,o,rfl,hr⟩⟩
def Sl.below(h:Sl w B size v n xs)(hb:Below B w w'):Sl w' B size v n xs:=h.keep fun _ hp=>hb.cell hp
def Sl.acu(h:Sl w B size v n xs)(hb:Below B' w w')(hB:B<=B'):Sl w' B size v n xs:=h.keep fun _ hp=>hb.cell Mx
def Sl.drew(h:Sl w B size v n xs):Sl w.drew B size v n xs:=h
def Sl.alloc(h:Sl w B size v n xs)(hB:B<=w.heap.size)(x:Obj):Sl (w.alloc x) B size v n xs:=h.keep fun p hp=>World.cell?_alloc_lt w x p Mx
def Sl.setCell(h:Sl w B size v n xs){p:Addr}(hB:B<=p.block)(u:Va):Sl (w.setCell p u) B size v n xs:=
 h.keep fun q hq=>Qcq w p q u (fun e=>by subst e;omega)
def Sl.form(h:Sl w B size v n xs):∃A c,v= .slice A n c/\n<=c/\c<=maxLen:=by
 obtain⟨_,A,c,hv,hc,hm,_⟩:=h;exact⟨A,c,hv,hc,hm⟩
def Sl.row(h:Sl w B size v n xs)(hn:0<n):∃b o c,v= .slice (some ⟨b,o,none⟩) n c/\n<=c/\c<=maxLen/\Row w B b o xs:=by
 obtain⟨_,A,c,hv,hc,hm,_,hr⟩:=h;obtain⟨b,o,rfl,ZL⟩:=hr hn;exact⟨b,o,c,hv,hc,hm,ZL⟩
end
def xp{B:Nat}{w w' :Wo}(h:Below B w.drew w'):Below B w w' :=⟨h.os,h.tape,h.output,h.size,h.block⟩
def ga{w w' :Wo}(h:Below w w w')(row:Option Nat):w.grownBy w' row:=⟨h.os,h.tape,h.output,h.size,fun k hk _=>h.block k hk⟩
def aS{w w' :Wo}{base:Nat}{e:TypeId}{size:Nat}{v:Va}{n:Nat}{xs:List Va}(h:w.ownsRow base e size v n xs)(hb:Below w w w'):w'.ownsRow base e size v n xs:=
 h.kept (ga hb none) (by cases v.ownBlock<;>simp)
def below_drewN{B:Nat}{w w' :Wo}(h:Below B w w')(n:Nat):Below B w (w'.drewN n):=⟨h.os,h.tape,h.output,h.size,h.block⟩
def jK{a b:Bool}(h:a=b):Ending.returned (.bool a)=Ending.returned (.bool b):=by rw[h]
section
variable {P : Program}{ops : Array Oper}{C : Wo -> Prop}{Q : Act -> Prop}{a : Act}{rest : List Oper}{dst : Option Tmp}{x : Operand}{t ty : TypeId}{pos : String}{after : Array Edge}
end
section
variable {P : Program}{ops : Array Oper}{w : Wo}{Q : Act -> Prop}{a : Act}{rest : List Oper}{dst : Option Tmp}{x : Operand}{t ty : TypeId}{pos : String}{after : Array Edge}
def st_load(p v:Va)(hx:a.eval x=p)(h:(Instr.loadAt t p).run P w= .ok v w)(hk:wpStill P ops w Q rest (a.put dst v)):
  wpStill P ops w Q (⟨dst,.load t x,ty,pos,after,none⟩::rest) a:=
 wpStill_step fun K hK=>by
  simp only[Region.wanted,Qdx];unfold Oper.still;rw[<-hx] at h;simp[execOp,h,Result.andThen,Oper.stillUpon];exact hK _ hk
end
section
variable {P : Program}{ops : Array Oper}{w : Wo}{Q : Exit -> Act -> Wo -> Prop}{a : Act}{rest : List Oper}{dst : Option Tmp}{x : Operand}{t ty : TypeId}{pos : String}{after : Array Edge}
def wl_load(p v:Va)(hx:a.eval x=p)(h:(Instr.loadAt t p).run P w= .ok v w)(hk:wpList P ops Q rest (a.put dst v) w):
  wpList P ops Q (⟨dst,.load t x,ty,pos,after,none⟩::rest) a w:=
 Qbi rfl fun K hK=>by
  unfold Oper.wp;rw[<-hx] at h;simp[execOp,h,Result.andThen];exact hK _ _ hk
def wl_new_arr{d:Tmp}{ty2:TypeId}{amQ:String}{acz:Array Edge}{z:Array Va}(cs:Array Va)(hi:(P.info? t).map (fun i=>(i.zero,i.size))=some (some (.agg z),cs.size))(hz:z.size=cs.size)
  (h1:cs.all (·.oneCell')=true) (hx:((a.put (some d) w).eval x)= .agg cs) (hd:((a.put (some d) w).eval (.tmp d))= .pointer (some ⟨w,0,none⟩))
  (hk:wpList P ops Q rest ((a.put (some d) w).put none undef) (w.alloc (.cells cs t))):
  wpList P ops Q (⟨some d,.alloc t,ty,pos,after,none⟩::⟨none,.store t (.tmp d) x,ty2,amQ,acz,none⟩::rest) a w:=by
 have cz:(P.info? t).map (·.size)=some cs.size:=by
  cases hq:P.info? t with
  |none=>simp[hq] at hi
  |some i=>simp[hq] at hi;simp[hi.2]
 refine Qbi rfl fun K hK=> ?_
 have ha:(Instr.alloc t true (.tuple #[])).run P w= .ok w (w.alloc (.cells z t)):=by
  have oI:=(zero_of_info hi).1;simp[Instr.alloc,oI,newVar,newRow,Result.andThen,Value.cells]
 unfold Oper.wp;simp[execOp,ha,Result.andThen];refine hK _ _ ?_;refine Qbi rfl fun K2 hK2=> ?_
 have hs:=run_storeAt_new (P:=P) w t z cs cz hz h1;unfold Oper.wp;simp only[execOp];rw[hd,hx];simp[hs,Result.andThen];exact hK2 _ _ hk
end
section
variable {α β : Type}[DecidableEq α]
end
section
variable {α β : Type}[DecidableEq α]
end
section
variable {α β : Type}{w w' : Wo}{P : Program}{k t e : TypeId}{m : Nat}{ek : α -> Va}{ev : β -> Va}{kv : List (α × β)}
variable [DecidableEq α]
end
section
variable {α β : Type}[DecidableEq α]{w : Wo}{P : Program}{k t e : TypeId}{m : Nat}{ek : α -> Va}{ev : β -> Va}{kv : List (α × β)}
variable {ops : Array Oper}{Q : Exit -> Act -> Wo -> Prop}{a : Act}{rest : List Oper}{dst : Option Tmp}{om ok ov : Operand}{ty : TypeId}{pos : String}{after : Array Edge}
end
def aI(x:Int):Prop:=0<=x/\x<256
def bI(x:Int):Prop:=0<=x/\x<18446744073709551616
def Bs(w:Wo)(B:Nat)(v:Va)(bs:List Int):Prop:=Sl w B 1 v bs.length (bs.map (.int .u8))/\∀x∈bs,aI x
end
section
variable{B:Nat}{P:ST}{ops:LC}{w:Wo}{Q:Mp}{a:Act}{rest:List Oper}{dst:Option Tmp}{os ox:Operand}{ty:Fy}{pos:String}{after:Array Edge}
def Sl.bU{w:Wo}{base:Nat}{e:Fy}{size:Nat}{v:Va}{n:Nat}{xs:Ox}(h:w.ownsRow base e size v n xs):Sl w w size v n xs:=by
 obtain⟨hl,⟨rfl,rfl⟩|⟨g,cap,cur,rfl,hb,hh,hn,hm,hs,ht⟩⟩:=h
 .have:xs=[]:=Zf zaC;subst this;exact O0 _ _ _
 .refine kT hl hn hm ⟨?_,λj u hu=> ?_⟩
  .rcases Qae g w with h1|h1
   .exact h1
   .simp[Array.getElem?_eq_none h1] at hh
  .rw[QR,Qen w g j cur _ _ hh];rw[<-ht] at hu;rw[Ze] at hu;split at hu
   .simpa using hu
   .cases hu
def pc{P:ST}(w:Wo)(base:Nat)(t ty e:Fy)(z:Va)(size bytes:Nat)(ht:P.underlying t=some (.slice e))(hi:(P.info? e).map (λi=>(i.zero,i.size,i.bytes))=some (some z,size,bytes))
  (Tq:z.cells.size=size) (cz:0<size) (v:Va) (n:Nat) (xs:Ox) (bN:w.ownsRow base e size v n xs) (vx:Va) (m:Nat) (news:Ox) (hx:Sl w B size vx m news)
  (h1:∀u∈news,u.oneCell' =true) (TP:n+m<=maxLen) (lF:(n+m)*bytes<=140737488355328) (ey:base<=w):
  ∃v' w',(Builtin.append_ #[t,t] ty #[v,vx]).run P w= .ok v' w'/\w'.ownsRow base e size v' (n+m) (xs++news)/\w.grownBy w' v.ownBlock:=by
 cases hq:P.info? e with
 |none=>simp[hq] at hi
 |some i=>
  simp[hq] at hi;obtain⟨hz,BF,hby⟩:=hi;obtain⟨hl,A,c,rfl,hc,hm,N4,hr⟩:=hx
  cases A with
  |none=>
   have xB:m=0:=by
    obtain h|h:=XG m
    .exact h
    .obtain⟨b,o,h,_⟩:=hr h
     cases h
   have pV:=N4 rfl;subst xB;subst pV;have uL:=Zf zaC;subst uL;have:=run_append_owned_none (P:=P) (w:=w) base t ty e i size ht hq v n xs bN;exact⟨v,w,this,by simpa using bN,⟨rfl,rfl,rfl,Qg _,λ_ _ _=>rfl⟩⟩
  |some ad=>
   obtain⟨v',w',h2,h3,h4,_⟩:=run_append_own (P:=P) w base t ty e i z size bytes ht hq hz BF hby Tq cz v n xs bN ad m c news hl (λj u hu=>by
    have xB:0<m:=by
     obtain h|h:=XG m
     .subst h
      have uL:=Zf zaC;subst uL;simp at hu
     .exact h
    obtain⟨b,o,h,dL⟩:=hr xB
    cases h
    rw[dP];exact dL.2 j u hu) h1 TP lF ey
   exact⟨v',w',h2,h3,h4⟩
section
def wl_append(base:Nat)(t e:Fy)(z:Va)(size bytes:Nat)(ht:P.underlying t=some (.slice e))(hi:(P.info? e).map (λi=>(i.zero,i.size,i.bytes))=some (some z,size,bytes))
  (Tq:z.cells.size=size) (cz:0<size) (v:Va) (n:Nat) (xs:Ox) (bN:w.ownsRow base e size v n xs) (vx:Va) (m:Nat) (news:Ox) (hx:Sl w B size vx m news)
  (h1:∀u∈news,u.oneCell' =true) (TP:n+m<=maxLen) (lF:(n+m)*bytes<=140737488355328) (ey:base<=w) (hs:a.eval os=v) (AM:a.eval ox=vx)
  (hK:∀v' w',w'.ownsRow base e size v' (n+m) (xs++news)->w.grownBy w' v.ownBlock->wpList P ops Q rest (a.put dst v') w'):
  wpList P ops Q (⟨dst,.call {callee:= .builtin .append,args:= #[os,ox],argTypes:= #[t,t]},ty,pos,after,none⟩::rest) a w:=by
 refine Qbi rfl λK hKK=> ?_;obtain⟨v',w',hr,h2,h3⟩:=pc (P:=P) w base t ty e z size bytes ht hi Tq cz v n xs bN vx m news hx h1 TP lF ey;unfold Oper.wp execOp;simp only[resolve,invoke,builtin,Qaz,Qcc,XH,Qep,Zs,Qfh,hs,AM,hr];exact hKK _ _ (hK v' w' h2 h3)
def nX{E:Prop}{K:Act->Wo->Prop}(base:Nat)(t e:Fy)(z:Va)(size bytes:Nat)(ht:P.underlying t=some (.slice e))(hi:(P.info? e).map (λi=>(i.zero,i.size,i.bytes))=some (some z,size,bytes))
  (Tq:z.cells.size=size) (cz:0<size) (v:Va) (n:Nat) (xs:Ox) (bN:w.ownsRow base e size v n xs) (vx:Va) (m:Nat) (news:Ox) (hx:Sl w B size vx m news)
  (h1:∀u∈news,u.oneCell' =true) (TP:n+m<=maxLen) (lF:(n+m)*bytes<=140737488355328) (ey:base<=w) (hs:a.eval os=v) (AM:a.eval ox=vx)
  (hK:∀v' w',w'.ownsRow base e size v' (n+m) (xs++news)->w.grownBy w' v.ownBlock->K (a.put dst v') w'):
  if Region.wanted ⟨dst,.call {callee:= .builtin .append,args:= #[os,ox],argTypes:= #[t,t]},ty,pos,after,none⟩ (yielded ops a.tmps)=true then
   Oper.wp P ⟨dst,.call {callee:= .builtin .append,args:= #[os,ox],argTypes:= #[t,t]},ty,pos,after,none⟩ a w K Q else E:=by
 simp only[Region.wanted,Qdx];obtain⟨v',w',hr,h2,h3⟩:=pc (P:=P) w base t ty e z size bytes ht hi Tq cz v n xs bN vx m news hx h1 TP lF ey;unfold Oper.wp execOp;simp only[resolve,invoke,builtin,Qaz,Qcc,XH,Qep,Zs,Qfh,hs,AM,hr];exact hK v' w' h2 h3
end
variable{w' :Wo}{g:Nat}{bs:Fr}
def dn(w:Wo)(g:Nat)(bs:Fr):Prop:=
 ∃cs:Array Va,w.heap[g]? =some (.cells cs 5 (0,0))/\bs.length<=cs.size/\∀(i:Nat) (u:Va),(bs.map (Value.int .u8))[i]? =some u->cs[i]? =some u
def dn.lt(h:dn w g bs):g<w:=by obtain⟨cs,h,_⟩:=h;exact(Qy.1 h).1
def dn.aQ(h:dn w g bs)(hb:w'.heap[g]? =w.heap[g]?):dn w' g bs:=by obtain⟨cs,h0,h1⟩:=h;exact⟨cs,zdR,h1⟩
def dn.on(h:dn w g bs)(hb:ci w w'):dn w' g bs:=h.aQ (hb.block g h.lt)
def dn.cell(h:dn w g bs){i:Nat}(hi:i<bs.length):w.cell? (an g i)=some (io bs[i])/\w.frozen? (an g i)=false:=by obtain⟨cs,h0,h1,h2⟩:=h;refine⟨?_,by simp[World.frozen?,h0]⟩;rw[Qen w g i _ _ _ h0];exact h2 i _ (by simp[hi])
def dn.set(h:dn w g bs)(i:Nat)(x:Int):dn (w.setCell (an g i) (io x)) g (bs.set i x):=by
 obtain⟨cs,h0,h1,h2⟩:=h;have aJ:=(Qy.1 h0).1;have h' :w.heap[g]= .cells cs 5 (0,0):=zcV;refine⟨cs.setIfInBounds i (io x),?_,zau,λj u hu=> ?_⟩
 .show(w.heap.modify g _)[g]? =_;rw[Xu zcg,Array.getElem_modify_self,h'];rfl
 .rw[Qhv];rw[Qem,Qbl] at hu;by_cases e:i=j
  .subst e;rw[Xo rfl] at hu|-;split at hu
   .rename_i hl
    rw[Xo (by simp at hl;omega)];exact hu
   .cases hu
  .rw[Xd e] at hu|-;exact h2 j u hu
variable{base:Nat}{xs:Fr}
def kR(w:Wo)(base:Nat)(v:Va)(xs:Fr):Prop:=w.ownsRow base 5 1 v xs.length (xs.map (.int .u8))
def kR.bu{w:Wo}{v:Va}(h:kR w base v xs):∃A n c,v= am A n c:=zek
def kR.len{w:Wo}{n c:Nat}{A:GB}(h:kR w base (am A n c) xs):n=xs.length:=by
 rcases h.2 with⟨e,h0⟩|⟨g,cap,cur,e,_⟩
 .cases e;exact h0.symm
 .cases e;rfl
def rD:(prog.info? 5).map (λi=>(i.zero,i.size,i.bytes))=some (some (io 0),1,1):=KJ
section
end
def aF(w:Wo)(o:Obj):ci w (w.alloc o):=pi.alloc go o
variable{p:Addr}{b n o sz:Nat}{v:Va}{xs:Ox}{S T U:FV}{DW:Wo}
structure aG(S:FV)(w w' :Wo):Prop where
 os:w'.os=w.os
 tape:w'.tape=w.tape
 output:w'.output=w.output
 size:w.heap.size<=w'.heap.size
 block:∀k,k<w.heap.size->¬S k->w'.heap[k]? =w.heap[k]?
section
def aG.refl(S:FV)(w:Wo):aG S w w:=⟨rfl,rfl,rfl,go,λ_ _ _=>rfl⟩
def aG.iR(h:aG S w w')(k:aG T w' DW)(hS:∀x,x<w.heap.size->S x->U x)(hT:∀x,x<w.heap.size->T x->U x):aG U w DW :=
 ⟨k.os.trans h.os,k.tape.trans h.tape,k.output.trans h.output,Qh h.size k.size,λx hx hn=>(k.block x (Qn hx h.size) (λe=>hn (hT x hx e))).trans (h.block x hx (λe=>hn (hS x hx e)))⟩
def aG.trans(h:aG S w w')(k:aG S w' DW):aG S w DW :=h.iR k (λ_ _ h=>h) (λ_ _ h=>h)
def aG.mono(h:aG S w w')(hS:∀x,x<w.heap.size->S x->T x):aG T w w' :=⟨h.os,h.tape,h.output,h.size,λx hx hn=>h.block x hx (λe=>hn (hS x hx e))⟩
def aG.Rn(h:Below B w w')(hS:∀x,x<w.heap.size->B<=x->S x):aG S w w' :=⟨h.os,h.tape,h.output,h.size,λx hx hn=>h.block x (Qdd λe=>hn (hS x hx e))⟩
def aG.aZ(h:ci w w'):aG S w w' :=aG.Rn h λ_ hx e=>absurd hx (XV.2 e)
def aG.below(h:aG S w w')(hB:B<=w.heap.size)(hS:∀x,x<B->¬S x):Below B w w' :=⟨h.os,h.tape,h.output,h.size,λx hx=>h.block x (Qn hx hB) (hS x hx)⟩
def aG.dH{row:Option Nat}(h:w.grownBy w' row)(hS:∀x,x<w.heap.size->row=some x->S x):aG S w w' :=⟨h.os,h.tape,h.output,h.size,λx hx hn=>h.block x hx (λe=>hn (hS x hx e.symm))⟩
def aG.setCell(h:aG S w w')(hp:p.block<w.heap.size->S p.block)(u:Va):aG S w (w'.setCell p u):=
 ⟨h.os,h.tape,h.output,Qh h.size (Xg Sv),λx hx hn=>by
  rw[Xl _ _ _ _ (by rintro rfl;exact hn (hp hx))]
  exact h.block x hx hn⟩
def aG.drew(h:aG S w w'):aG S w w'.drew:=⟨h.os,h.tape,h.output,h.size,h.block⟩
def aG.cell(h:aG S w w')(hp:p.block<w.heap.size)(hS:¬S p.block):w'.cell? p=w.cell? p:=Qau (h.block _ hp hS)
def Ap(S:FV)(v:Va):Prop:=∀b o n c,0<n->v= .slice (some ⟨b,o,none⟩) n c->¬S b
def Py(S:FV):Ap S ():=λb o n c _ h=>by cases h
def jD{c:Nat}(h:¬S b):Ap S (el b o n c):=λb' o' n' c' _ e=>by cases e;exact h
def Ap.mono(h:Ap S v)(hS:∀x,T x->S x):Ap T v:=λb o n c hn e hT=>h b o n c hn e (hS b hT)
def Row.aL(h:Row w B b o xs)(hc:aG S w w')(hB:B<=w.heap.size)(hS:¬S b):Row w' B b o xs:=
 ⟨h.1,λj u hu=>(hc.cell (Qn h.1 hB) hS).trans (h.2 j u hu)⟩
def Sl.aL(h:Sl w B sz v n xs)(hc:aG S w w')(hB:B<=w.heap.size)(ha:Ap S v):Sl w' B sz v n xs:=by obtain⟨hl,A,c,hv,AB,hm,hz,hr⟩:=h;refine⟨hl,A,c,hv,AB,hm,hz,λhn=> ?_⟩;obtain⟨b,o,hA,hr⟩:=hr hn;exact⟨b,o,hA,hr.aL hc hB (ha b o n c hn (by rw[hv,hA]))⟩
def Sl.ap(h:Sl w B sz v n xs)(hS:∀x,x<B->¬S x):Ap S v:=λb o n' c' hn e=>by
 obtain⟨A,c,hv,-,-⟩:=h.form;rw[hv] at e
 cases e;obtain⟨b',o',c'',mQ,-,-,hr⟩:=h.row hn;rw[hv] at mQ
 cases mQ;exact hS _ hr.1
def Sl.apart(h:Sl w B sz v n xs)(ha:Ap S v)(hS:∀x,T x->S x\/B<=x):Ap T v:=λb o n' c' hn e hT=>by
 have h1:=ha b o n' c' hn e;obtain⟨A,c,hv,-,-⟩:=h.form;rw[hv] at e
 cases e;obtain⟨b',o',c'',mQ,-,-,hr⟩:=h.row hn;rw[hv] at mQ
 cases mQ;obtain hs|hs:=hS _ hT
 .exact h1 hs
 .exact absurd hr.1 (XV.2 hs)
end
def mH:Nat->Int->List Int
 |0,_=>[]
 |s+1,n=>(n/256^s%256)::mH s n
def j4(bs:Fr):Int:=bs.foldl (λn x=>n*256+x) 0
def de(s:Nat)(n:Int):(mH s n).length=s:=by
 induction s with
 |zero=>rfl
 |succ s ih=>simp[mH,ih]
def eW(s:Nat)(n:Int):∀x∈mH s n,aI x:=by
 induction s with
 |zero=>intro x hx;cases hx
 |succ s ih=>
  intro x hx;obtain rfl|h:=QA.1 hx
  .exact⟨Qdo _ Fd,Qdh _ Fd⟩
  .exact ih x h
def VP(s:Nat)(n:Int)(i:Nat)(h:i<s):(mH s n)[i]? =some (n/256^(s - 1 - i)%256):=by
 induction s generalizing i with
 |zero=>omega
 |succ s ih=>
  cases i with
  |zero=>simp[mH]
  |succ i=>
   rw[mH,Qcz,ih i Mx];rw[show s - 1 - i=s+1 - 1 - (i+1) by omega]
def Ge(bs:Fr)(a:Int):bs.foldl (λn x=>n*256+x) a=a*256^bs.length+j4 bs:=by
 induction bs generalizing a with
 |nil=>simp[j4]
 |cons x r ih=>
  rw[Qak,ih,show j4 (x::r)=List.foldl (λn x=>n*256+x) (0*256+x) r from rfl,ih (0*256+x),QF,Int.pow_succ];simp only[Int.zero_mul,Int.zero_add,Int.add_mul];ac_rfl
def Lj(x:Int)(r:Fr):j4 (x::r)=x*256^r.length+j4 r:=by show List.foldl _ _ _=_;rw[Qak,Ge];simp
def ofBe_beN(s:Nat)(n:Int):0<=n->n<256^s->j4 (mH s n)=n:=by
 have key:∀(s:Nat) (n:Int),j4 (mH s n)=n%256^s:=by
  intro s;induction s with
  |zero=>intro n;simp[mH,j4,Int.emod_one]
  |succ s ih=>
   intro n;rw[mH,Lj,ih,de,Int.pow_succ];have hp:(0:Int)<256^s:=Qgn Fd;generalize (256:Int)^s=p at*;have e1:=Int.mul_ediv_add_emod n p;have e2:=Int.mul_ediv_add_emod (n/p) 256;have h1:=Qdo n (Int.ne_of_gt hp);have h2:=Qdh n hp;have h3:=Qdo (n/p) (show(256:Int)≠0 by decide);have h4:=Qdh (n/p) (show(0:Int)<256 by decide);generalize n/p=q at*;generalize n%p=m at*;generalize q%256=u at*;generalize q/256=v at*;have h5:0<=u*p:=Int.mul_nonneg h3 (Qca hp);have h6:u*p<=255*p:=Qho Mx (Qca hp);have e3:n=(u*p+m)+(p*256)*v:=(by rw[<-e1,<-e2,Int.mul_add];ac_rfl);rw[e3,Int.add_mul_emod_self_left,Qhj Mx Mx]
 intro h0 h1;rw[key,Qhj h0 h1]
def lR(bs:Fr)(h:∀x∈bs,aI x):0<=j4 bs/\j4 bs<256^bs.length:=by
 induction bs with
 |nil=>simp[j4]
 |cons x r ih=>
  obtain⟨h0,h1⟩:=ih λy hy=>h y (Qs _ hy);obtain⟨x0,x1⟩:=h x (Qm ..);rw[Lj,QF,Int.pow_succ];have hp:(0:Int)<256^r.length:=Qgn Fd;have e1:0<=x*256^r.length:=Int.mul_nonneg x0 (Qca hp);have e2:x*256^r.length<=255*256^r.length:=Qho Mx (Qca hp);constructor
  .omega
  .rw[Int.mul_comm _ 256];omega
def lB(bs:Fr)(at_ s:Nat)(n:Int):List Int:=bs.take at_++mH s n++bs.drop (at_+s)
def u7{bs:Fr}{at_ s:Nat}{n:Int}(h:at_+s<=bs.length):(lB bs at_ s n).length=bs.length:=by simp[lB,de];omega
def cK(bs:Fr)(at_ s:Nat):Int:=j4 ((bs.drop at_).take s)
def j3(bs:Fr):Int:=bs.foldl (λs x=>(31*s+x+7)%4294967291) 1
def lN(bs:Fr):0<=j3 bs/\j3 bs<4294967291:=by
 have key:∀(bs:Fr) (a:Int),0<=a/\a<4294967291->0<=bs.foldl (λs x=>(31*s+x+7)%4294967291) a/\bs.foldl (λs x=>(31*s+x+7)%4294967291) a<4294967291:=by
  intro bs;induction bs with
  |nil=>exact λa h=>h
  |cons x r ih=>exact λa _=>ih _ ⟨Qdo _ Fd,Qdh _ Fd⟩
 exact key bs 1 Fd
def nf(k:Int)(body:Fr):List Int:=k::(body++replicate (123 - body.length) 0)
def rJ(k:Int)(body:Fr)(h:body.length<=123):(nf k body).length=124:=by simp[nf];omega
def oX(k:Int)(body:Fr):List Int:=nf k body++mH 4 (j3 (nf k body))
def oq(k:Int)(body:Fr)(h:body.length<=123):(oX k body).length=128:=by simp[oX,rJ k body h,de]
def dy(p:Fr):Option (Int×List Int):=if p.length=128/\j4 (p.drop 124)=j3 (p.take 124) then some (p.headD 0,(p.take 124).drop 1) else none
def open_seal(k:Int)(body:Fr)(h:body.length<=123):dy (oX k body)=some (k,body++replicate (123 - body.length) 0):=by
 have hl:=rJ k body h;unfold dy;have hs:=lN (nf k body);have e1:(oX k body).drop 124=mH 4 (j3 (nf k body)):=by rw[oX,<-hl,Qei]
 have e2:(oX k body).take 124=nf k body:=by rw[oX,<-hl,Qfj]
 rw[Xo ⟨oq k body h,by rw[e1,e2,ofBe_beN 4 _ hs.1 Mx]⟩,e2];rfl
def qy(l:Fr):List Int:=(l.length:Int)::l.flatMap (mH 2)
def encI(k:Int)(l:Fr):List Int:=oX k (qy l)
def yR(l:Fr):(qy l).length=1+2*l.length:=by rw[qy,QF,Qcj];have:(l.map λa=>(mH 2 a).length)=l.map λ_=>2:=Zj λx _=>de 2 x;exact zfz
def mq(body:Fr):List Int:=(range 61).map λi=>cK body (1+2*i) 2
def pB(k:Int)(p:Fr):Option (List Int):=
 match dy p with
 |none=>none
 |some (k',body)=>if k' =k/\(k=4\/k=5)/\body.headD 0<=61/\((mq body).drop (body.headD 0).toNat).all (·==0)=true then some ((mq body).take (body.headD 0).toNat) else none
def aR(n:Int):Int:=if n<1 then 0 else(n - 1)/61+1
structure aD where
 print:Int
 block:Int
deriving DecidableEq
structure ay where
 depth:Int
 next:Int
 es:List aD
deriving DecidableEq
def mK(a b:Int):Int:=if a<b then -1 else if b<a then 1 else 0
def fO(a b:aD):Int:=if mK a.print b.print≠0 then mK a.print b.print else mK a.block b.block
def dV:List aD->Bool
 |[]=>true
 |[_]=>true
 |a::b::r=>decide (fO a b<0)&&dV (b::r)
def kC(l:List aD)(d:Int):Bool:=
 match l with
 |[]=>true
 |a::r=>d==0||(a.print.toNat ^^^ ((a::r).getLastD a).print.toNat)/2^(64 - d).toNat==0
def bC(s:ay):Bool:=
 decide (s.depth<=64)&&decide (s.next<4096)&&decide (s.es.length<=9)&&s.es.all (λe=>decide (e.block≠0)&&decide (e.block<4096))&&dV s.es&&kC s.es s.depth
def rq(e:aD):List Int:=mH 8 e.print++mH 4 e.block
def mw(s:ay):List Int:=[s.depth,(s.es.length:Int)]++mH 4 s.next++s.es.flatMap rq
def encS(s:ay):List Int:=oX 3 (mw s)
def xI(body:Fr)(i:Nat):aD:=⟨cK body (6+12*i) 8,cK body (6+12*i+8) 4⟩
def mJ(p:Fr):Option ay:=
 match dy p with
 |none=>none
 |some (k,body)=>
  if k=3/\body.getD 1 0<=9 then
   let many:=(body.getD 1 0).toNat
   let s:ay:=⟨body.getD 0 0,cK body 2 4,(range many).map (xI body)⟩
   if bC s=true/\(body.drop (6+12*many)).all (·==0)=true then some s else none
  else none
structure aN where
 gen:Int
 blocks:Int
 roots:List Int
 marks:List Int
deriving DecidableEq
def nm(s:aN):Bool:=decide (0<s.gen)&&decide (16<=s.blocks)&&decide (s.blocks<=4096)&&s.roots.all λr=>decide (r<s.blocks)
def qx(s:aN):List Int:=mH 8 s.gen++mH 4 s.blocks++s.roots.flatMap (mH 4)++s.marks.flatMap (mH 8)++replicate 7 0++mH 8 s.gen
def J7(s:aN):List Int:=oX 6 (qx s)
def gI(body:Fr):aN:=⟨cK body 0 8,cK body 8 4,(range 8).map λi=>cK body (12+4*i) 4,(range 8).map λi=>cK body (44+8*i) 8⟩
def kA(p:Fr):Option aN:=
 match dy p with
 |none=>none
 |some (k,body)=>
  if k=6/\((body.drop 108).take 7).all (·<=0)=true/\cK body 115 8=cK body 0 8/\nm (gI body)=true then some (gI body) else none
def nh(slot:Nat)(p:Fr)(gC:aN):aN:=
 match kA p with
 |none=>gC
 |some s=>if s.gen%2=slot/\gC.gen<s.gen then s else gC
def qu(p0 p1:Fr):Option aN:=
 let b:=nh 1 p1 (nh 0 p0 ⟨0,0,replicate 8 0,replicate 8 0⟩)
 if b.gen=0 then none else some b

variable{a b c d e f g h i j k l:Prop}
def eX{α:Sort _}(a:α):∃y,y=a:=⟨a,rfl⟩
def dK(x1:a)(x2:b):Af (a/\b):=⟨x1,x2⟩
def iJ(x1:a)(x2:b)(x3:c):Af (a/\b/\c):=⟨x1,x2,x3⟩
def kH(x1:a)(x2:b)(x3:c)(x4:d):Af (a/\b/\c/\d):=⟨x1,x2,x3,x4⟩
def Ba(x1:a)(x2:b)(x3:c)(x4:d)(x5:e):Af (a/\b/\c/\d/\e):=⟨x1,x2,x3,x4,x5⟩
def Nv(x1:a)(x2:b)(x3:c)(x4:d)(x5:e)(x6:f):Af (a/\b/\c/\d/\e/\f):=⟨x1,x2,x3,x4,x5,x6⟩
def hI7(x1:a)(x2:b)(x3:c)(x4:d)(x5:e)(x6:f)(x7:g):Af (a/\b/\c/\d/\e/\f/\g):=⟨x1,x2,x3,x4,x5,x6,x7⟩
def hI8(x1:a)(x2:b)(x3:c)(x4:d)(x5:e)(x6:f)(x7:g)(x8:h):Af (a/\b/\c/\d/\e/\f/\g/\h):=⟨x1,x2,x3,x4,x5,x6,x7,x8⟩
def hI9(x1:a)(x2:b)(x3:c)(x4:d)(x5:e)(x6:f)(x7:g)(x8:h)(x9:i):Af (a/\b/\c/\d/\e/\f/\g/\h/\i):=⟨x1,x2,x3,x4,x5,x6,x7,x8,x9⟩
def anl(x1:a)(x2:b)(x3:c)(x4:d)(x5:e)(x6:f)(x7:g)(x8:h)(x9:i)(x10:j):Af (a/\b/\c/\d/\e/\f/\g/\h/\i/\j):=⟨x1,x2,x3,x4,x5,x6,x7,x8,x9,x10⟩
def ank(x1:a)(x2:b)(x3:c)(x4:d)(x5:e)(x6:f)(x7:g)(x8:h)(x9:i)(x10:j)(x11:k):Af (a/\b/\c/\d/\e/\f/\g/\h/\i/\j/\k):=⟨x1,x2,x3,x4,x5,x6,x7,x8,x9,x10,x11⟩
def anj(x1:a)(x2:b)(x3:c)(x4:d)(x5:e)(x6:f)(x7:g)(x8:h)(x9:i)(x10:j)(x11:k)(x12:l):Af (a/\b/\c/\d/\e/\f/\g/\h/\i/\j/\k/\l):=⟨x1,x2,x3,x4,x5,x6,x7,x8,x9,x10,x11,x12⟩
variable{p s:Nat}{n:Int}
def oK(bs:Fr)(p s:Nat)(n:Int)(k:Nat):List Int:=(range bs.length).map λj=>if p+s<=j+k/\j<p+s then n/256^(p+s - 1 - j)%256 else bs.getD j 0
def Ra(bs:Fr)(p s:Nat)(n:Int)(k:Nat):(oK bs p s n k).length=bs.length:=by simp[oK]
def KR(bs:Fr)(p s:Nat)(n:Int):oK bs p s n 0=bs:=by refine Qaf (by simp[oK]) λj h1 h2=> ?_;simp only[oK,Qah,Qbp];rw[Xd Mx];simp[h2]
def KS{k:Nat}(hk:k<s):(oK bs p s n k).set (p+s - 1 - k) (n/256^k%256)=oK bs p s n (k+1):=by
 refine Qaf (by simp[oK]) λj h1 h2=> ?_;rw[List.getElem_set];simp only[oK,Qah,Qbp];by_cases e:p+s - 1 - k=j
 .rw[Xo e,Xo Mx];have:p+s - 1 - j=k:=by omega
  rw[this]
 .rw[Xd e];by_cases h3:p+s<=j+k/\j<p+s
  .rw[Xo h3,Xo Mx]
  .rw[Xd h3,Xd Mx]
def Rb(h:p+s<=bs.length):oK bs p s n s=lB bs p s n:=by
 refine Qal λj=> ?_;by_cases hj:j<bs.length
 .rw[show(oK bs p s n s)[j]? =some (if p+s<=j+s/\j<p+s then n/256^(p+s - 1 - j)%256 else bs.getD j 0) by simp[oK,hj]];unfold lB;by_cases h1:j<p
  .rw[QN zdK,QN BY,Xd Mx];simp[h1,hj]
  .by_cases h2:j<p+s
   .rw[QN zdK,QM BY,Xo Mx];rw[Qu,Zh Mx,VP s n (j - p) Mx];rw[show p+s - 1 - j=s - 1 - (j - p) by omega]
   .rw[QM zdK,Xd Mx];rw[Qo,Qu,de,Zh Mx,Zb];rw[show p+s+(j - (p+s))=j by omega];simp[hj]
 .rw[QQ (by simp[oK];omega),QQ (by rw[u7 h];omega)]
def sh0(n:Int)(s:Nat)(h0:0<=n)(h1:n<256^s):n/2^(8*s)=0:=by
 have e:(2:Int)^(8*s)=256^s:=by rw[Int.pow_mul];rfl
 rw[e];exact Int.ediv_eq_zero_of_lt h0 h1
def I4(w:Wo)(n at_ s:Nat)(hs:1<=s/\s<=8)(hn:n<=100000)(ha:at_<=100000):
  Calls prog 180 #[ac n,ac at_,ac s] w (iF (.bool (decide (at_+s<=n))) λw' =>w=w') :=by
 have h2:IntKind.i64.wrap ((n:Int) - s)=(n:Int) - s:=zbS;have h3:wrap64 ((n:Int) - s)=(n:Int) - s:=vW;have Ip:(1:Int)<=s:=Mx;have hs8:(s:Int)<=8:=Mx;have It:(0:Int)<=at_:=Mx;by_cases h:at_+s<=n
 .have h1:(at_:Int)<=(n:Int) - s:=by omega
  rw[Xa h];clear h hs hn ha;go_in;go_wp2;exact vl
 .have h1:¬(at_:Int)<=(n:Int) - s:=by omega
  rw[Xe h];clear h hs hn ha;go_in;go_wp2;exact vl
def jM(w:Wo)(g o L c at_ s:Nat)(bs:Fr)(n:Int)(h:dn w g bs)(hL:o+L<=bs.length)(hs:1<=s/\s<=8)(kJ:at_+s<=L)(hl:bs.length<=100000)(hn:0<=n/\n<256^s):
  Calls prog 107 #[el g o L c,ac at_,ac s,ip n] w (iF true λw' =>dn w' g (lB bs (o+at_) s n)/\w.grownBy w' (some g)/\w'.heap.size=w.heap.size):=by
 have ta:=sh0 n s hn.1 hn.2;have HL:=iJ hL kJ hl;have HW:=aa (I4 w L at_ s hs Mx Mx);have ph:=Xa kJ;rw[ph] at HW;have Ip:(1:Int)<=s:=Mx;have hs8:(s:Int)<=8:=Mx;clear hL kJ hl hn ph;change Af _ at h hs;go_in;by_cases hs9:(s:Int)<8;all_goals
  go_upto_region 3 with(go_at_call 180;refine PP HW.o ?_);clear hs9 ta HW;go_wp2;go_loopw [28] (λi wr=>∃k:Nat,k<=s/\i= ac k/\Af (dn wr g (oK bs (o+at_) s n k)/\w.grownBy wr (some g)/\wr.heap.size=w.heap.size)) (λi _=>s - (intOf i).toNat)
  .exact⟨0,Mx,rfl,by rw[KR];exact h.o,⟨rfl,rfl,rfl,go,λ_ _ _=>rfl⟩,rfl⟩
  .obtain⟨k,hk,rfl,hK⟩:=hrel;have K:=aa hK.o;clear hK;by_cases aJ:k<s
   .have SK:(0:Int)<=(k:Int):=(by omega);have hks:(k:Int)<s:=Mx;have Ng:(k:Int)<8:=Mx;have⟨p,hp⟩:=eX (at_+s - 1 - k);have hpL:p<L:=zbH;have Iq:(p:Int)<L:=Mx;have tA:(0:Int)<=(p:Int):=Mx;have nZ:wrap64 ((at_:Int)+s)=(at_:Int)+s:=zbI;have fp:wrap64 ((at_:Int)+s - 1)=(at_:Int)+s - 1:=zbI;have hw4:wrap64 ((at_:Int)+s - 1 - k)=(p:Int):=zbI;obtain⟨hc,hf⟩:=K.p1.cell (i:=o+p) (by rw[Ra];have:=HL.o;omega);have bj:=aa aJ;have HK1:Af (dn (rc wr g (o+p) (io (n/2^(8*k)%256))) g (oK bs (o+at_) s n (k+1))):=(by have h1:=K.p1.set (o+at_+s - 1 - k) (n/256^k%256);rw[KS aJ,show o+at_+s - 1 - k=o+p by have:=HL.o;omega] at h1;have e:(2:Int)^(8*k)=256^k:=(by rw[Int.pow_mul];rfl);rw[e];exact h1);have HK2:Af (w.grownBy (rc wr g (o+p) (io (n/2^(8*k)%256))) (some g)):=
     ⟨K.p2.os,K.p2.tape,K.p2.output,by simpa using K.p2.size,λj hj bT=>by rw[Xl _ _ _ _ (λe=>bT zbl)];exact K.p2.block j hj bT⟩
    generalize (oK bs (o+at_) s n k)[o+p]'_=u at hc;clear hp aJ hk;go_wp2;go_roundw
    .exact⟨k+1,bj.o,zcL,HK1.o,HK2.o,by simpa using K.q2⟩
    .have:=bj.o;exact zaK
   .obtain rfl:k=s:=(by omega);clear aJ hk;go_wp2;go_ret;have h1:=K.p1;rw[Rb zbH] at h1;exact⟨rfl,h1,K.q1⟩
def Vq(n x:Int)(h0:0<=n)(h1:n*256+255<18446744073709551616)(x0:0<=x)(x1:x<256):bits .or .u64 (n*256) x=n*256+x:=by
 obtain⟨a,rfl⟩:∃a:Nat,n=a:=⟨n.toNat,Mx⟩;obtain⟨b,rfl⟩:∃b:Nat,x=b:=⟨x.toNat,Mx⟩;have h:=u64_or_nat (a*256) b Mx Mx;have e:a*256|||b=a*256+b:=by have:=Nat.shiftLeft_add_eq_or_of_lt (i:=8) (b:=b) Mx a;rw[Nat.shiftLeft_eq] at this;exact this.symm
 rw[e] at h;have e2:((a*256:Nat):Int)=(a:Int)*256:=Int.natCast_mul _ _;rw[e2] at h;rw[h,Int.natCast_add,e2]
def Vk:∀j:Nat,j<8->(256:Int)^(min j 8)*256<=18446744073709551616:=Fd
def Li(l:Fr)(x:Int):j4 (l++[x])=j4 l*256+x:=by simp[j4]
def lf(w:Wo)(B:Nat)(v:Va)(bs:Fr)(hb:Bs w B v bs)(at_ s:Nat)(hs:1<=s/\s<=8)(h8:at_+s<=bs.length)(hl:bs.length<=100000):
  Calls prog 186 #[v,ac at_,ac s] w (iF (.tuple #[ip (cK bs at_ s),.bool true]) λw' =>w=w') :=by
 obtain⟨b,o,c,rfl,hc,hm,hr⟩:=hb.1.row Mx;have⟨L,hL⟩:=eX bs.length;rw[<-hL] at hc|-;have aH:∀j,j<s->jp w b (o+at_+j) (io (bs.getD (at_+j) 0)):=λj hj=>by rw[XB];refine hr.2 (at_+j) _ ?_;rw[Qt,Qf Mx,Qe,Qf Mx];rfl
 have YI:∀j,j<s->aI (bs.getD (at_+j) 0):=λj hj=>by rw[Qe,Qf Mx];exact hb.2 _ (QI _)
 have⟨ds,TG⟩:=eX ((bs.drop at_).take s);have oR:ds.length=s:=by rw[TG,Qu,Zt];omega
 have hdg:∀j (h:j<ds.length),ds[j]=bs.getD (at_+j) 0:=λj h=>by rw[Qe,Qf Mx];simp[TG]
 have HY:=aa (I4 w L at_ s hs Mx Mx);have ph:decide (at_+s<=L)=true:=Xa Mx;rw[ph] at HY;have Hds:Af (∀k,∀x∈ds.take k,aI x):=λk x hx=>hb.2 x (Q6 (Za (TG▸Za hx)));have h8L:at_+s<=L:=Mx;have nZ:wrap64 ((at_:Int)+s)=(at_:Int)+s:=vW;have hsI:(at_:Int)+s<=L:=Mx;have hs8:=hs.2;have hac:at_<c:=Mx;have hlL:L<=100000:=Mx;unfold maxLen at hm;rw[cK,<-TG];clear TG hb hr hL h8 hl ph hs;change Af _ at aH YI oR hdg;go_in;go_wp2_with(go_at_call 180;refine PP HY.o ?_);go_loopw [8,24] (λv i wr=>∃j:Nat,j<=s/\v= ip (j4 (ds.take j))/\i= ac j/\wr=w) (λ_ i _=>s - (intOf i).toNat)
 .exact⟨0,lm,rfl,rfl,rfl⟩
 .obtain⟨j,hj,rfl,rfl,rfl⟩:=hrel;by_cases aJ:j<s
  .have hj8:j<8:=(by omega);have e1:j4 (ds.take (j+1))=j4 (ds.take j)*256+bs.getD (at_+j) 0:=(by rw[Qcw,Qf (oR.o▸aJ),<-hdg.o j (oR.o▸aJ)];exact Li _ _);have hr:=lR (ds.take j) (Hds.o j);have hp:(256:Int)^(ds.take j).length*256<=18446744073709551616:=(by rw[Qu,oR.o,Zh Mx];have:=Vk j hj8;rwa[Zh Mx] at this);have h0:=hr.1;have h1:j4 (ds.take j)*256+255<18446744073709551616:=Mx;have hb:=YI.o j aJ;have hc:=aH.o j aJ;have E1:=aa e1;have gd:=hb.1;have xx:=hb.2;have hjs:(j:Int)<s:=Mx;clear hr hp e1 hb nZ hsI;generalize bs.getD (at_+j) 0=x at*;have⟨n,hn⟩:=eX (j4 (ds.take j));rw[<-hn] at h0 h1 E1|-;clear hn;have ho:=Vq n x h0 h1 gd xx;go_wp2;go_roundw
   .exact⟨j+1,aJ,by rw[E1.o],zcL,trivial⟩
   .exact zaK
  .have hj8:j=s:=(by omega);subst hj8;clear aJ hj;have ht:=Qj (by rw[oR.o];exact go);rw[ht];clear ht;go_wp2_with fail;go_ret2;exact⟨rfl,rfl⟩
def Ku(l:Fr)(x:Int):j3 (l++[x])=(31*j3 l+x+7)%4294967291:=by simp[j3]
def I6(w:Wo)(B:Nat)(v:Va)(bs:Fr)(hb:Bs w B v bs)(h0:0<bs.length)(hl:bs.length<=100000):
  Calls prog 182 #[v] w (iF (gc (j3 bs)) λw' =>w=w') :=by
 obtain⟨b,o,c,rfl,hc,hm,hr⟩:=hb.1.row h0;have⟨L,hL⟩:=eX bs.length;rw[<-hL] at hc|-;have Hc:Af (∀j,(h:j<L)->jp w b (o+j) (io (bs.getD j 0))/\aI (bs.getD j 0)/\j3 (bs.take (j+1))=(31*j3 (bs.take j)+bs.getD j 0+7)%4294967291):=λj hj=>by
  have Eg :j<bs.length:=Mx;refine⟨?_,?_,?_⟩
  .refine hr.2 j _ ?_;rw[Qt,Qf Eg,Qe,Qf Eg];rfl
  .rw[Qe,Qf Eg];exact hb.2 _ (QI _)
  .rw[Qcw,Qf Eg,Qe,Qf Eg];exact Ku _ _
 have hlL:L<=100000:=Mx;have HL:=aa hL;unfold maxLen at hm;clear hb hr hL h0 hl;go_in;go_wp2;go_loop [3,8] (λv i=>∃j:Nat,j<=L/\v= ip (j3 (bs.take j))/\i= ac j) (λ_ i=>L - (intOf i).toNat)
 .exact⟨0,lm,rfl,rfl⟩
 .obtain⟨j,hj,rfl,rfl⟩:=hrel;by_cases aJ:j<L
  .obtain⟨hc,⟨gd,xx⟩,e1⟩:=Hc.o j aJ;obtain⟨h0,h1⟩:=lN (bs.take j);have E1:=aa e1;have hjs:(j:Int)<L:=(by omega);clear e1;generalize bs.getD j 0=x at*;have⟨n,hn⟩:=eX (j3 (bs.take j));rw[<-hn] at h0 h1 E1|-;clear hn;go_wp2;exact⟨⟨j+1,aJ,by rw[E1.o],zcL⟩,zaK⟩
  .have hj8:j=L:=(by omega);subst hj8;clear aJ hj;have ht:bs.take j=bs:=Qj (by rw[HL.o];exact go);obtain⟨h0,h1⟩:=lN bs;have hw:IntKind.u32.wrap (j3 bs)=j3 bs:=AI;rw[ht];clear ht;go_wp2;exact vl
end
section
variable{S:FV}{u v:Va}{c n o g base B:Nat}{w w' :Wo}{e:Fy}{cs:Ox}{k:IntKind}{xs:Fr}
def aq(w:Wo)(g:Nat)(e:Fy)(cs:Ox):Prop:=w.heap[g]? =some (.cells cs.toArray e (0,0))
section
def aq.lt(h:aq w g e cs):g<w:=(Qy.1 h).1
def aq.aQ(h:aq w g e cs)(hb:w'.heap[g]? =w.heap[g]?):aq w' g e cs:=hb.trans h
def aq.on(h:aq w g e cs)(hb:ci w w'):aq w' g e cs:=h.aQ (hb.block g h.lt)
def aq.aL(h:aq w g e cs)(hc:aG S w w')(hS:¬S g):aq w' g e cs:=h.aQ (hc.block g h.lt hS)
def aq.grown{row:Option Nat}(h:aq w g e cs)(hg:w.grownBy w' row)(bT:some g≠row):aq w' g e cs:=h.aQ (hg.block g h.lt bT)
def aq.cell(h:aq w g e cs){j:Nat}(hj:cs[j]? =some u):w.cell? (an g j)=some u:=by rw[Qen w g j _ _ _ h];simpa using hj
def aq.j0(h:aq w g e cs)(hj:cs[0]? =some u:=by rfl):w.cell? g=some u:=h.cell hj
def aq.j1(h:aq w g e cs)(hj:cs[1]? =some u:=by rfl):jp w g 1 u:=h.cell hj
def aq.j2(h:aq w g e cs)(hj:cs[2]? =some u:=by rfl):jp w g 2 u:=h.cell hj
def aq.j3(h:aq w g e cs)(hj:cs[3]? =some u:=by rfl):jp w g 3 u:=h.cell hj
def aq.j4(h:aq w g e cs)(hj:cs[4]? =some u:=by rfl):jp w g 4 u:=h.cell hj
def aq.j5(h:aq w g e cs)(hj:cs[5]? =some u:=by rfl):jp w g 5 u:=h.cell hj
def aq.j6(h:aq w g e cs)(hj:cs[6]? =some u:=by rfl):jp w g 6 u:=h.cell hj
def aq.j7(h:aq w g e cs)(hj:cs[7]? =some u:=by rfl):jp w g 7 u:=h.cell hj
def aq.free(h:aq w g e cs)(j:Nat):w.frozen? (an g j)=false:=by have h0:w.heap[g]? =some (.cells cs.toArray e (0,0)):=h;simp[World.frozen?,h0]
def aq.set(h:aq w g e cs)(j:Nat)(u:Va):aq (w.setCell (an g j) u) g e (cs.set j u):=by have h0:w.heap[g]? =some (.cells cs.toArray e (0,0)):=h;have aJ:=h.lt;have h' :w.heap[g]= .cells cs.toArray e (0,0):=zcV;exact zeu
def aq.az(h:aq w g e cs){p:Addr}(hp:g≠p.block)(u:Va):aq (w.setCell p u) g e cs:=h.aQ (Xl _ _ _ _ hp)
def aq.alloc(h:aq w g e cs)(o:Obj):aq (w.alloc o) g e cs:=h.aQ (Qej _ _ _ h.lt)
def ar(w:Wo)(cs:Ox)(e:Fy):aq (w.alloc (.cells cs.toArray e)) w e cs:=Qea _ _
def aq.row(h:aq w g e cs)(o n:Nat):Row w w g o ((cs.drop o).take n):=
 ⟨h.lt,λj u hu=>h.cell (by
  rw[Ze] at hu;split at hu
  .rwa[Zb] at hu
  .cases hu)⟩
def aq.sl(h:aq w g e cs){sz:Nat}(ho:o+n*sz<=cs.length)(hc:n<=c)(hm:c<=maxLen):Sl w w sz (el g o n c) n ((cs.drop o).take (n*sz)):=
 kT BY hc hm (h.row o _)
end
def aq.JZ{w:Wo}{g:Nat}{bs:Fr}(h:aq w g 5 (bs.map (.int .u8))):dn w g bs:=⟨_,h,Sv,λi u hu=>by simpa using hu⟩
def dn.bs{w:Wo}{g:Nat}{bs:Fr}(h:dn w g bs)(ho:o+n<=bs.length)(hc:n<=c)(hm:c<=maxLen)(hb:∀x∈bs,aI x):Bs w w (el g o n c) ((bs.drop o).take n):=by
 obtain⟨cs,h0,h1,h2⟩:=h;have hl:((bs.drop o).take n).length=n:=BY;refine⟨?_,λx hx=>hb x (Q6 (Za hx))⟩;rw[hl];refine kT BY hc hm ⟨(Qy.1 h0).1,λj u hu=> ?_⟩;rw[Qen w g _ _ _ _ h0];refine h2 _ u ?_;rw[Qt,Ze] at hu;split at hu
 .rw[Qt];rwa[Zb] at hu
 .cases hu
def dn.aL{w w' :Wo}{g:Nat}{bs:Fr}(h:dn w g bs)(hc:aG S w w')(hS:¬S g):dn w' g bs:=h.aQ (hc.block g h.lt hS)
def ahJ(u:Va)(h:u.cells= #[u])(n:Nat):madeCells u.cells (n*1)=(replicate n u).toArray:=by
 apply Qev;apply Qaf
 .simp[madeCells]
 .intro i h1 h2;simp[madeCells,h,Nat.mod_one]
def eV{P:ST}{t e:Fy}{z:Va}{bytes:Nat}(ht:P.underlying t=some (.slice e))(hi:(P.info? e).map (λi=>(i.zero,i.size,i.bytes))=some (some z,1,bytes))(hz:z.cells= #[z])(hb:bytes<=8)
  (n:Nat) (hn:n<=100000) (w:Wo):(Instr.makeSlice t (.int .i64 n) (.int .i64 n)).run P w= .ok (.slice (some ⟨w,0,none⟩) n n) (w.alloc (.cells (replicate n z).toArray e)):=by
 obtain⟨i0,hi,oI,mM,xw⟩:=Qdq hi;have h:=run_makeSlice (P:=P) w t e i0 z ht hi oI .i64 .i64 n n Mx (Qcp _) (by rw[mM,Xt];omega) (by rw[xw];have:(bytes:Int)*n<=8*100000:=Int.mul_le_mul Mx Mx Mx Mx;omega) Mx;rw[mM,Xt,ahJ z hz] at h;exact h
def eC(k:IntKind)(x:Int):(Value.int k x).cells= #[.int k x]:=rfl
def Ia(x:Bool):(Value.bool x).cells= #[.bool x]:=rfl
def aB(w:Wo)(base:Nat)(e:Fy)(k:IntKind)(v:Va)(xs:Fr):Prop:=w.ownsRow base e 1 v xs.length (xs.map (.int k))
section
def aB.on(h:aB w base e k v xs)(hb:ci w w'):aB w' base e k v xs:=aS h hb
def cQ(w:Wo)(base:Nat)(e:Fy)(k:IntKind):aB w base e k () []:=Qbn _ _ _ _
def aB.kept{row:Option Nat}(h:aB w base e k v xs)(hg:w.grownBy w' row)(bT:v.ownBlock=none\/v.ownBlock≠row):aB w' base e k v xs:=Qac h hg bT
def aB.bu(h:aB w base e k v xs):∃A n c,v= am A n c:=zek
def aB.sl(h:aB w base e k v xs):Sl w w 1 v xs.length (xs.map (.int k)):=Sl.bU h
def dW(k:IntKind)(xs:Fr):∀u∈xs.map (Value.int k),u.oneCell' =true:=by intro u hu;obtain⟨x,_,rfl⟩:=QU.1 hu;rfl
end
def Ns(w:Wo)(B:Nat)(k:IntKind)(v:Va)(xs:Fr):Prop:=Sl w B 1 v xs.length (xs.map (.int k))
section
def Ns.below(h:Ns w B k v xs)(hb:Below B w w'):Ns w' B k v xs:=Sl.below h hb
def Ns.more{B' :Nat}(h:Ns w B k v xs)(hB:B<=B'):Ns w B' k v xs:=Sl.more h hB
def Ns.form(h:Ns w B k v xs):∃A c,v= am A xs.length c/\xs.length<=c/\c<=maxLen:=Sl.form h
def Ns.cells(h:Ns w B k v xs)(h0:0<xs.length):∃b o c,v= el b o xs.length c/\xs.length<=c/\c<=maxLen/\b<B/\∀j,j<xs.length->jp w b (o+j) (.int k (xs.getD j 0)):=zeD
end
def Bs.ns{w:Wo}{B:Nat}{v:Va}{bs:Fr}(h:Bs w B v bs):Ns w B .u8 v bs:=h.1
def dx(w:Wo)(o o2:Obj):((w.alloc o).alloc o2).heap[w.heap.size]? =some o:=by rw[Qej _ _ _ Sv];exact Qea w o
def cL(w:Wo)(o o2:Obj):((w.alloc o).alloc o2).heap[w.heap.size+1]? =some o2:=by have:=Qea (w.alloc o) o2;rwa[World.size_alloc] at this
def Tryz.DB:Go.Shelf.Ren:=⟨fun |125=>66|128=>132|129=>133|n=>n,fun |46=>103|3=>3|51=>27|53=>26|4=>4|5=>5|9=>9|n=>n,fun |n=>n⟩
def Tryz.Vy:Go.Proofs.Lays.n125 prog Tryz.DB:={
 mixed:=by kernel_rfl
 f125:=func66.trans (XF some KJ)
 f128:=func132.trans (XF some KJ)
 f129:=func133.trans (XF some KJ)
 t3:=underlying3
 a3:=Tryz.isAgg3
 z3:=Tryz.sizeOf3
 v3:=Tryz.zeroValue3
 t4:=underlying4
 a4:=Tryz.isAgg4
 z4:=Tryz.sizeOf4
 v4:=Tryz.zeroValue4
 t5:=underlying5
 a5:=Tryz.isAgg5
 z5:=Tryz.sizeOf5
 v5:=Tryz.zeroValue5
 t9:=underlying9
 a9:=Tryz.isAgg9
 z9:=Tryz.sizeOf9
 v9:=Tryz.zeroValue9
 t46:=underlying103
 a46:=Tryz.isAgg103
 z46:=Tryz.sizeOf103
 v46:=Tryz.zeroValue103
 t51:=underlying27
 a51:=Tryz.isAgg27
 z51:=Tryz.sizeOf27
 v51:=Tryz.zeroValue27
 t53:=underlying26
 a53:=Tryz.isAgg26
 z53:=Tryz.sizeOf26
 v53:=Tryz.zeroValue26}
def Tryz.bits_Len(x:Int)(w:Wo)(h0:0<=x)(h1:x<=18446744073709551615):
  Calls prog 66 #[.int .u64 x] w fun e w' =>e= .returned (.int .i64 (Lib.bitLen x.toNat))/\w' =w:=Any.bits_Len Tryz.Vy x w h0 h1
def Tryz.DA:Go.Shelf.Ren:=⟨fun |189=>101|125=>66|257=>171|128=>132|129=>133|294=>208|295=>209|296=>210|297=>211|298=>212|299=>213|216=>205|300=>214|301=>215|328=>224|329=>225|330=>226|331=>227|332=>228|215=>222|343=>238|n=>n,fun |28=>53|3=>3|46=>103|0=>0|51=>27|53=>26|4=>4|183=>302|182=>301|131=>157|5=>5|9=>9|218=>313|222=>317|228=>325|229=>138|n=>n,fun |n=>n⟩
def Tryz.Jl:Go.Proofs.Lays.n189 prog Tryz.DA:={
 mixed:=by kernel_rfl
 f125:=func66.trans (XF some KJ)
 f128:=func132.trans (XF some KJ)
 f129:=func133.trans (XF some KJ)
 f189:=func101.trans (XF some KJ)
 f215:=func222.trans (XF some KJ)
 f216:=func205.trans (XF some KJ)
 f257:=func171.trans (XF some KJ)
 f294:=func208.trans (XF some KJ)
 f295:=func209.trans (XF some KJ)
 f296:=func210.trans (XF some KJ)
 f297:=func211.trans (XF some KJ)
 f298:=func212.trans (XF some KJ)
 f299:=func213.trans (XF some KJ)
 f300:=func214.trans (XF some KJ)
 f301:=func215.trans (XF some KJ)
 f328:=func224.trans (XF some KJ)
 f329:=func225.trans (XF some KJ)
 f330:=func226.trans (XF some KJ)
 f331:=func227.trans (XF some KJ)
 f332:=func228.trans (XF some KJ)
 f343:=func238.trans (XF some KJ)
 t0:=underlying0
 a0:=Tryz.isAgg0
 z0:=Tryz.sizeOf0
 v0:=Tryz.zeroValue0
 t3:=underlying3
 a3:=Tryz.isAgg3
 z3:=Tryz.sizeOf3
 v3:=Tryz.zeroValue3
 t4:=underlying4
 a4:=Tryz.isAgg4
 z4:=Tryz.sizeOf4
 v4:=Tryz.zeroValue4
 t5:=underlying5
 a5:=Tryz.isAgg5
 z5:=Tryz.sizeOf5
 v5:=Tryz.zeroValue5
 t9:=underlying9
 a9:=Tryz.isAgg9
 z9:=Tryz.sizeOf9
 v9:=Tryz.zeroValue9
 t28:=underlying53
 a28:=Tryz.isAgg53
 z28:=Tryz.sizeOf53
 v28:=Tryz.zeroValue53
 t46:=underlying103
 a46:=Tryz.isAgg103
 z46:=Tryz.sizeOf103
 v46:=Tryz.zeroValue103
 t51:=underlying27
 a51:=Tryz.isAgg27
 z51:=Tryz.sizeOf27
 v51:=Tryz.zeroValue27
 t53:=underlying26
 a53:=Tryz.isAgg26
 z53:=Tryz.sizeOf26
 v53:=Tryz.zeroValue26
 t131:=underlying157
 a131:=Tryz.isAgg157
 z131:=Tryz.sizeOf157
 v131:=Tryz.zeroValue157
 t182:=underlying301
 a182:=Tryz.isAgg301
 z182:=Tryz.sizeOf301
 v182:=Tryz.zeroValue301
 t183:=underlying302
 a183:=Tryz.isAgg302
 z183:=Tryz.sizeOf302
 v183:=Tryz.zeroValue302
 t218:=underlying313
 a218:=Tryz.isAgg313
 z218:=Tryz.sizeOf313
 v218:=Tryz.zeroValue313
 t222:=underlying317
 a222:=Tryz.isAgg317
 z222:=Tryz.sizeOf317
 v222:=Tryz.zeroValue317
 t228:=underlying325
 a228:=Tryz.isAgg325
 z228:=Tryz.sizeOf325
 v228:=Tryz.zeroValue325
 t229:=underlying138
 a229:=Tryz.isAgg138
 z229:=Tryz.sizeOf138
 v229:=Tryz.zeroValue138}
open Go.Sort Go.RowKit in
theorem Tryz.slices_Sort_int(Ej off cap:Nat)(zs:List Int)(w:Wo)(hH:Holds (Value.int .i64) w Ej off zs.toArray)(uA:Ej<w.heap.size)(cz:zs.length<4611686018427387904):
  Calls prog 101 #[.slice (some ⟨Ej,off,none⟩) zs.length cap] w fun e w' =>
   e= .returned (.tuple #[])/\∃n os,w' =grow (putRow (Value.int .i64) (Sort.ahead w n) Ej off (zs.mergeSort fun x y=>decide (x<=y)).toArray) os:=Any.slices_Sort_int Tryz.Jl Ej off cap zs w hH uA cz
def Tryz.DE:Go.Shelf.Ren:=⟨fun |107=>70|108=>140|n=>n,fun |28=>53|3=>3|4=>4|0=>0|n=>n,fun |n=>n⟩
def Tryz.Jm:Go.Proofs.Lays.n107 prog Tryz.DE:={
 mixed:=by kernel_rfl
 f107:=func70.trans (XF some KJ)
 f108:=func140.trans (XF some KJ)
 t0:=underlying0
 a0:=Tryz.isAgg0
 z0:=Tryz.sizeOf0
 v0:=Tryz.zeroValue0
 t3:=underlying3
 a3:=Tryz.isAgg3
 z3:=Tryz.sizeOf3
 v3:=Tryz.zeroValue3
 t4:=underlying4
 a4:=Tryz.isAgg4
 z4:=Tryz.sizeOf4
 v4:=Tryz.zeroValue4
 t28:=underlying53
 a28:=Tryz.isAgg53
 z28:=Tryz.sizeOf53
 v28:=Tryz.zeroValue53}
open Go.Lib in
theorem Tryz.slices_Contains_int(b off n c:Nat)(zs:List Int)(x:Int)(w:Wo)(hz:n<=zs.length)(uB:n<=9223372036854775807)(hc:∀j,j<zs.length->w.cell? ⟨b,off+j,none⟩=some (.int .i64 (zs.getD j 0))):
  Calls prog 70 #[.slice (some ⟨b,off,none⟩) n c,.int .i64 x] w fun e w' =>e= .returned (.bool ((zs.take n).contains x))/\w' =w:=Any.slices_Contains_int Tryz.Jm b off n c zs x w hz uB hc
open Go.Lib in
theorem Tryz.slices_Contains_int_empty(a:Option Addr)(c:Nat)(x:Int)(w:Wo):
  Calls prog 70 #[.slice a 0 c,.int .i64 x] w fun e w' =>e= .returned false/\w' =w:=Any.slices_Contains_int_empty Tryz.Jm a c x w
def Tryz.DC:Go.Shelf.Ren:=⟨fun |113=>143|n=>n,fun |28=>53|3=>3|4=>4|9=>9|20=>20|0=>0|n=>n,fun |n=>n⟩
def Tryz.Vz:Go.Proofs.Lays.n113 prog Tryz.DC:={
 mixed:=by kernel_rfl
 f113:=func143.trans (XF some KJ)
 t0:=underlying0
 a0:=Tryz.isAgg0
 z0:=Tryz.sizeOf0
 v0:=Tryz.zeroValue0
 t3:=underlying3
 a3:=Tryz.isAgg3
 z3:=Tryz.sizeOf3
 v3:=Tryz.zeroValue3
 t4:=underlying4
 a4:=Tryz.isAgg4
 z4:=Tryz.sizeOf4
 v4:=Tryz.zeroValue4
 t9:=underlying9
 a9:=Tryz.isAgg9
 z9:=Tryz.sizeOf9
 v9:=Tryz.zeroValue9
 t20:=underlying20
 a20:=Tryz.isAgg20
 z20:=Tryz.sizeOf20
 v20:=Tryz.zeroValue20
 t28:=underlying53
 a28:=Tryz.isAgg53
 z28:=Tryz.sizeOf53
 v28:=Tryz.zeroValue53}
open Go.Lib in
theorem Tryz.slices_Max_int(b off n c:Nat)(zs:List Int)(w:Wo)(hn:0<n)(hz:n<=zs.length)(uB:n<=9223372036854775807)(hc:∀j,j<zs.length->w.cell? ⟨b,off+j,none⟩=some (.int .i64 (zs.getD j 0))):
  Calls prog 143 #[.slice (some ⟨b,off,none⟩) n c] w fun e w' =>e= .returned (.int .i64 (Lib.maxOf (zs.take n)))/\w' =w:=Any.slices_Max_int Tryz.Vz b off n c zs w hn hz uB hc
def Tryz.DD:Go.Shelf.Ren:=⟨fun |111=>194|n=>n,fun |28=>53|3=>3|4=>4|0=>0|n=>n,fun |n=>n⟩
def Tryz.zO:Go.Proofs.Lays.n111 prog Tryz.DD:={
 mixed:=by kernel_rfl
 f111:=func194.trans (XF some KJ)
 t0:=underlying0
 a0:=Tryz.isAgg0
 z0:=Tryz.sizeOf0
 v0:=Tryz.zeroValue0
 t3:=underlying3
 a3:=Tryz.isAgg3
 z3:=Tryz.sizeOf3
 v3:=Tryz.zeroValue3
 t4:=underlying4
 a4:=Tryz.isAgg4
 z4:=Tryz.sizeOf4
 v4:=Tryz.zeroValue4
 t28:=underlying53
 a28:=Tryz.isAgg53
 z28:=Tryz.sizeOf53
 v28:=Tryz.zeroValue53}
open Go.RowKit Go.Lib in
theorem Tryz.slices_Equal_int(b1 o1 n c b2 o2 m d:Nat)(xs ys:List Int)(w:Wo)(hx:n<=xs.length)(hy:m<=ys.length)(uB:n<=9223372036854775807)(OR:m<=9223372036854775807)(jb:∀j,j<xs.length->w.cell? ⟨b1,o1+j,none⟩=some (.int .i64 (xs.getD j 0)))(pk:∀j,j<ys.length->w.cell? ⟨b2,o2+j,none⟩=some (.int .i64 (ys.getD j 0))):
  Calls prog 194 #[.slice (some ⟨b1,o1,none⟩) n c,.slice (some ⟨b2,o2,none⟩) m d] w fun e w' =>e= .returned (.bool (xs.take n==ys.take m))/\∃q,w' =w.drewN q:=Any.slices_Equal_int Tryz.zO b1 o1 n c b2 o2 m d xs ys w hx hy uB OR jb pk
open Go.RowKit Go.Lib in
theorem Tryz.slices_Equal_int_empty(a1 a2:Option Addr)(c m d:Nat)(w:Wo)(OR:m<=9223372036854775807):
  Calls prog 194 #[.slice a1 0 c,.slice a2 m d] w fun e w' =>e= .returned (.bool (decide (m=0)))/\w' =w:=Any.slices_Equal_int_empty Tryz.zO a1 a2 c m d w OR
def Tryz.xe:Go.Shelf.Ren:=⟨fun |15=>95|n=>n,fun |22=>53|3=>3|4=>4|n=>n,fun |n=>n⟩
def Tryz.rU:Go.Proofs.Lays2.n15 prog Tryz.xe:={
 mixed:=by kernel_rfl
 f15:=func95.trans (XF some KJ)
 t3:=underlying3
 a3:=Tryz.isAgg3
 z3:=Tryz.sizeOf3
 v3:=Tryz.zeroValue3
 t4:=underlying4
 a4:=Tryz.isAgg4
 z4:=Tryz.sizeOf4
 v4:=Tryz.zeroValue4
 t22:=underlying53
 a22:=Tryz.isAgg53
 z22:=Tryz.sizeOf53
 v22:=Tryz.zeroValue53
 i3:=by kernel_rfl}
open Go.RowKit Go.Lib in
theorem Tryz.slices_Clone_int(b off n c:Nat)(zs:List Int)(w:Wo)(hz:n<=zs.length)(uB:n*8<=140737488355328)(hc:∀j,j<zs.length->w.cell? ⟨b,off+j,none⟩=some (.int .i64 (zs.getD j 0))):
  Calls prog 95 #[.slice (some ⟨b,off,none⟩) n c] w fun e w' =>∃v',e= .returned v'/\w'.ownsRow w 3 1 v' n ((zs.take n).map (Value.int .i64))/\v'≠ .slice none 0 0/\Below w w w' :=Any.slices_Clone_int Tryz.rU b off n c zs w hz uB hc
open Go.RowKit Go.Lib in
theorem Tryz.slices_Clone_int_nil(n c:Nat)(w:Wo):
  Calls prog 95 #[.slice none n c] w fun e w' =>e= .returned ()/\w' =w:=Any.slices_Clone_int_nil Tryz.rU n c w
open Go.RowKit Go.Lib in
theorem Tryz.slices_Clone_int_zero(a:Addr)(c:Nat)(w:Wo):
  Calls prog 95 #[.slice (some a) 0 c] w fun e w' =>∃v',e= .returned v'/\w'.ownsRow w 3 1 v' 0 []/\v'≠ .slice none 0 0/\Below w w w' :=Any.slices_Clone_int_zero Tryz.rU a c w
def Tryz.xd:Go.Shelf.Ren:=⟨fun |25=>168|31=>205|32=>206|37=>222|n=>n,fun |22=>53|3=>3|4=>4|40=>103|0=>0|n=>n,fun |n=>n⟩
def Tryz.yw:Go.Proofs.Lays2.n25 prog Tryz.xd:={
 mixed:=by kernel_rfl
 f25:=func168.trans (XF some KJ)
 f31:=func205.trans (XF some KJ)
 f32:=func206.trans (XF some KJ)
 f37:=func222.trans (XF some KJ)
 t0:=underlying0
 a0:=Tryz.isAgg0
 z0:=Tryz.sizeOf0
 v0:=Tryz.zeroValue0
 t3:=underlying3
 a3:=Tryz.isAgg3
 z3:=Tryz.sizeOf3
 v3:=Tryz.zeroValue3
 t4:=underlying4
 a4:=Tryz.isAgg4
 z4:=Tryz.sizeOf4
 v4:=Tryz.zeroValue4
 t22:=underlying53
 a22:=Tryz.isAgg53
 z22:=Tryz.sizeOf53
 v22:=Tryz.zeroValue53
 t40:=underlying103
 a40:=Tryz.isAgg103
 z40:=Tryz.sizeOf103
 v40:=Tryz.zeroValue103}
open Go.RowKit Go.Lib in
theorem Tryz.slices_BinarySearch_int(b off n c:Nat)(zs:List Int)(x:Int)(w:Wo)(hz:n<=zs.length)(uB:n<4611686018427387904)(hc:∀j,j<zs.length->w.cell? ⟨b,off+j,none⟩=some (.int .i64 (zs.getD j 0)))(hs:(zs.take n).Pairwise (·<=·)):
  Calls prog 168 #[.slice (some ⟨b,off,none⟩) n c,.int .i64 x] w fun e w' =>e= .returned (.tuple #[.int .i64 ((zs.take n).countP (·<x):Nat),.bool ((zs.take n).contains x)])/\∃q,w' =w.drewN q:=Any.slices_BinarySearch_int Tryz.yw b off n c zs x w hz uB hc hs
open Go.RowKit Go.Sort in
theorem Tryz.slices_Sort_int_none(p:Option Addr)(cap:Nat)(w:Wo):
  Calls prog 101 #[.slice p 0 cap] w fun e w' =>e= .returned (.tuple #[])/\w' =w:=Any.slices_Sort_int_none Tryz.Jl p cap w
open Go.RowKit Go.Lib in
theorem Tryz.slices_BinarySearch_int_empty(a:Option Addr)(c:Nat)(x:Int)(w:Wo):
  Calls prog 168 #[.slice a 0 c,.int .i64 x] w fun e w' =>e= .returned (.tuple #[.int .i64 0,.bool false])/\w' =w:=Any.slices_BinarySearch_int_empty Tryz.yw a c x w
open Go.RowKit Go.Lib in
theorem Tryz.slices_Equal_int_lens(a1 a2:Option Addr)(n c m d:Nat)(w:Wo)(hnm:n≠m):
  Calls prog 194 #[.slice a1 n c,.slice a2 m d] w fun e w' =>e= .returned false/\w' =w:=Any.slices_Equal_int_lens Tryz.zO a1 a2 n c m d w hnm
def Tryz.zW:Go.Shelf.Ren:=⟨fun |4=>191|n=>n,fun |22=>95|4=>4|5=>5|n=>n,fun |n=>n⟩
def Tryz.RB:Go.Proofs.SlLaysK.n4 prog Tryz.zW:={
 mixed:=by kernel_rfl
 f4:=func191.trans (XF some KJ)
 t4:=underlying4
 a4:=Tryz.isAgg4
 z4:=Tryz.sizeOf4
 v4:=Tryz.zeroValue4
 t22:=underlying95
 a22:=Tryz.isAgg95
 z22:=Tryz.sizeOf95
 v22:=Tryz.zeroValue95
 t5:=underlying5
 i5:=by kernel_rfl}
open Go.RowKit Go.Lib in
theorem Tryz.bytes_Clone_at(a:Addr)(n c:Nat)(xs:List Int)(w:Wo)(hx:xs.length=n)(uB:n<=140737488355328)(hc:∀i,i<n->w.cell? (a.add i)=some (.int .u8 (xs.getD i 0))):
  Calls prog 191 #[.slice (some a) n c] w fun e w' =>∃v',e= .returned v'/\w'.ownsRow w 5 1 v' n (xs.map (Value.int .u8))/\v'≠ .slice none 0 0/\Below w w w' :=Any.bytes_Clone_at Tryz.RB a n c xs w hx uB hc
variable{k:Int}{body:Fr}
def yj(w:Wo)(b o c:Nat)(hc:128<=c):
  Calls prog 181 #[el b o 128 c] w (iF (.tuple #[el b o 124 124,el b (o+124) 4 4]) λw' =>ci w w') :=by
 have h1:(128:Int)<=c:=Mx;have h2:(124:Int)<=c:=Mx;go_in;go_wp2;go_quiet (fail);go_wp2;go_ret2;exact⟨rfl,below_drewN pi _⟩
def vz(hk:aI k)(hb:∀x∈body,aI x):∀x∈nf k body,aI x:=by
 intro x hx;unfold nf at hx;obtain rfl|hx:=QA.1 hx
 .exact hk
 .rcases Qz.1 hx with h|h
  .exact hb x h
  .rw[QJ h];exact⟨Fd,Fd⟩
def lP(hk:aI k)(hb:∀x∈body,aI x):∀x∈oX k body,aI x:=by
 intro x hx;unfold oX at hx;obtain h|h:=Qz.1 hx
 .exact vz hk hb x h
 .exact eW _ _ x h
def Dk(k:Int)(body:Fr)(h:body.length<=123):splice ((replicate 128 (io 0)).set 0 (io k)) 1 (body.map (.int .u8))=(nf k body++replicate 4 0).map (.int .u8):=by have e:(replicate 128 (io 0)).set 0 (io k)= io k::replicate 127 (io 0):=rfl;rw[e];unfold splice nf;simp only[Zw,Zq,Qq,Zs,QL,Qdg,Qaj,QZ];rw[show 1+body.length=body.length+1 by omega,Zk,List.drop_replicate,QY,Qas];rw[show 127 - body.length=123 - body.length+4 by omega]
def PQ(k:Int)(body:Fr)(h:body.length<=123):lB (nf k body++replicate 4 0) 124 4 (j3 (nf k body))=oX k body:=by have hl:=rJ k body h;unfold lB oX;rw[<-hl,Qfj,Zu Sv,Zi]
def zes:(prog.info? 5).map (·.size)=some 1:=KJ
def uY(w:Wo)(k:Int)(v:Va)(body:Fr)(hk:aI k)(h:Bs w w v body)(hl:body.length<=123):
  Calls prog 108 #[.int .u8 k,v] w λe w' =>e= .returned (.tuple #[.slice (some ⟨w,0,none⟩) 128 128,.int .i64 0])/\dn w' w (oX k body)/\Below w w w' :=by
 obtain⟨A,c,rfl,AB,xA⟩:=h.1.form;have⟨m,hm⟩:=eX body.length;have H:=aa h;rw[<-hm] at H|-;have Hm:=dK hm (by omega:m<=123);have⟨g,hg⟩:=eX w.heap.size;have⟨W1,aW⟩:=eX (w.alloc (.cells (replicate 128 (Value.int .u8 0)).toArray 5));have yX:(Instr.makeSlice 95 (.int .i64 128) (.int .i64 128)).run prog w= .ok (.slice (some ⟨g,0,none⟩) 128 128) W1:=zaz;have yZ:aq W1 g 5 (replicate 128 (.int .u8 0)):=by rw[aW,hg];exact ar _ _ _
 have z0:=yZ.cell (j:=0) (u:= .int .u8 0) rfl;have zf:=yZ.free 0;have B1:Af (Below g w W1):=by rw[aW,hg];exact aF _ _
 have hB2:=aa (yZ.set 0 (.int .u8 k));have B2:Af (Below g w (W1.setCell ⟨g,0,none⟩ (.int .u8 k))):=B1.o.setCell (Qg _) _;have oc:¬(123:Int)<m:=Jx;rw[<-hg];clear h hl hm aW yZ AB xA;change Af _ at hk hg;go_in;go_upto_region 5 with fail;clear yX z0 zf;generalize W1.setCell ⟨g,0,none⟩ (.int .u8 k)=W2 at*;have⟨cs,iH⟩:=eX (body.map (Value.int .u8));have WS:=aa iH;have oJ:cs.length=m:=by rw[iH,Qq];exact Hm.p1.symm
 have tk:=aa oJ;have uE:Af (0<cs.length->∃ad,A=some ad/\∀j u,cs[j]? =some u->W2.cell? (ad.add j)=some u):=λhp=>by obtain⟨b,o,c',hv,-,-,hr⟩:=H.p1.row Jx;cases hv;refine⟨_,rfl,λj u hj=> ?_⟩;rw[dP,B2.o.cell (hg.o▸hr.1)];exact hr.2 j u (iH▸hj)
 clear iH oJ;go_upto_region 6 with(refine wpList_copy_splice rfl (.tmp 17) (.tmp 18) 95 95 rfl 5 underlying95 zes _ _ _ _ _ _ rfl rfl g 1 ((replicate 128 (Value.int .u8 0)).set 0 (.int .u8 k)) 5 hB2.o cs ?_ ?_ ?_ ?_ g w B2.o (Qg _) ?_;(·have:=Hm.o;have:=tk.o;simp only[Qey];split<;>omega);(·intro hp;obtain⟨ad,h1,h2⟩:=uE.o hp;exact⟨rfl,ad,h1,h2⟩);(·have:=Hm.o;have:=tk.o;simp;omega);(·intro u hu;rw[WS.o] at hu;exact dW .u8 body u hu);(intro W3 qa jW;have B3:=aa jW;clear jW));have⟨sd,Eb⟩:=eX (nf k body);have O3:Af (dn W3 g (sd++replicate 4 0)):=by have h1:=qa.out;rw[WS.o,Dk k body Jx,<-Eb] at h1;exact aq.JZ h1
 have kr:sd.length=124:=Eb▸(rJ k body Jx);have jq:∀x∈sd,aI x:=Eb▸(vz hk.o H.q1);have Ug:=iJ Eb kr jq;have HP:=yj W3 g 0 128 Fd;simp only[QR] at HP;have tp:=aa HP;clear qa Eb kr jq HP uE hB2 B2;go_upto_region 7 with(go_at_call 181;refine PF tp.o λW4 h4=> ?_;have O4:=aa (O3.o.on h4);have B4:=aa (B3.o.trans (h4.mono (hg.o▸B3.o.size)));clear h4);have uz:=lN sd;have lz:=uz.1;have Ip:j3 sd<18446744073709551616:=Mx
 have HS:=aa (I6 W4 W4 (.slice (some ⟨g,0,none⟩) 124 124) sd (by
  have h1:=O4.o.bs (o:=0) (n:=124) (c:=124) zcA Fd Fd (by
   intro x hx;obtain h|h:=Qz.1 hx
   .exact Ug.q2 x h
   .rw[QJ h];exact⟨Fd,Fd⟩)
  rw[Zl,<-Ug.p2,Qfj] at h1;rw[Ug.p2] at h1;exact h1) (by have:=Ug.p2;omega) (by have:=Ug.p2;omega))
 have Uj:=aa (jM W4 g 124 4 4 0 4 (sd++replicate 4 0) (j3 sd) O4.o zcA Fd Fd zcA ⟨lz,Mx⟩);have hw:IntKind.u64.wrap (j3 sd)=j3 sd:=AI
 have⟨n,hn⟩:=eX (j3 sd);have Hn:=aa hn;rw[<-hn] at HS Uj hw lz Ip;clear uz hn;go_wp2_with(first
  |(go_at_call 182;refine PP HS.o ?_)
  |(go_at_call 107;refine Uj.o.mono ?_;rintro e W6 ⟨rfl,o6,g6,s6⟩;have O6:=aa o6;have G6:=aa g6;clear o6 g6 s6))
 go_ret2;refine⟨rfl,?_,?_⟩
 .have h1:=O6.o;rw[XC,Hn.o,Ug.p1,PQ k body Jx] at h1;exact h1
 .exact B4.o.grown G6.o (hg.o▸B4.o.size) (by intro k' ZT;cases ZT;exact Qg _)
def kR.low{w:Wo}{b b' :Nat}{v:Va}{xs:Fr}(h:kR w b v xs)(hb:b'<=b):kR w b' v xs:=by
 refine⟨h.1,?_⟩;obtain h1|⟨g,cap,cur,h1,h2,h3⟩:=h.2
 .exact .inl h1
 .exact .inr ⟨g,cap,cur,h1,Qh hb h2,h3⟩
def ahQ(w:Wo)(p:Fr)(e:Ending)(w' :Wo):Prop:=
 Below w w w'/\((dy p=none/\e= .returned (.tuple #[.int .u8 0,(),.int .i64 10]))\/∃k body v,dy p=some (k,body)/\e= .returned (.tuple #[.int .u8 k,v,.int .i64 0])/\kR w' w v body)
def Dt{p:Fr}(hl:p.length=128)(h:j4 (p.drop 124)=j3 (p.take 124)):dy p=some (p.headD 0,(p.take 124).drop 1):=by rw[dy,Xo ⟨hl,h⟩]
def qM(w:Wo)(v:Va)(p:Fr)(h:Bs w w v p):
  Calls prog 130 #[v] w (ahQ w p):=by
 obtain⟨A,c,rfl,AB,xA⟩:=h.1.form;have⟨m,hm⟩:=eX p.length;have H:=aa h;rw[<-hm] at H|-;by_cases ag2:m=128
 .subst ag2;obtain⟨b,o,c',hv,-,-,hr⟩:=H.p1.row Mx;injection hv with e1 e2 e3;subst e1;subst e3;clear e2;have dh:=hm.symm;have HP:=aa (yj w b o c Mx);have h1:Bs w w (el b o 124 124) (p.take 124):=by
   refine⟨?_,λx hx=>H.q1 x (Za hx)⟩;have hl:(p.take 124).length=124:=BY
   rw[hl];exact kT BY Mx Fd ⟨hr.1,λj u hu=>by
    rw[Qcn,Ze] at hu;split at hu
    .exact hr.2 j u hu
    .cases hu⟩
  have h2:Bs w w (el b (o+124) 4 4) (p.drop 124):=by refine⟨?_,λx hx=>H.q1 x (Q6 hx)⟩;have hl:(p.drop 124).length=4:=BY;rw[hl];exact kT BY Mx Fd ⟨hr.1,λj u hu=>by rw[Qgt,Zb] at hu;rw[XB];exact hr.2 (124+j) u hu⟩
  have pV:w.cell? (an b o)=some (io (p.headD 0)):=by
   have:=hr.2 0 (io (p.headD 0)) (by
    cases p with
    |nil=>simp at dh
    |cons x r=>simp)
   exact zdO
  have Hb1:=aa h1;have Uh:=dK hr.1 pV;have jb:(128:Int)<=c:=Mx;clear h hm h1 pV AB xA;change Af _ at hr h2 dh;go_in;go_upto_region 4 with(go_at_call 181;refine Pe HP.o λW2 B2=> ?_);have b1:Bs W2 W2 (el b o 124 124) (p.take 124):=⟨(Hb1.p1.below B2.o).more B2.o.size,Hb1.q1⟩;have b2:Bs W2 W2 (el b (o+124) 4 4) (p.drop 124):=⟨(h2.p1.below B2.o).more B2.o.size,h2.q1⟩;have HG:=aa (lf W2 W2 (el b (o+124) 4 4) (p.drop 124) b2 0 4 Fd zav zav);have HS:=aa (I6 W2 W2 (el b o 124 124) (p.take 124) b1 zav zav);have AU:cK (p.drop 124) 0 4=j4 (p.drop 124):=by rw[cK,Zl,Qj zav]
  rw[AU] at HG;obtain⟨s0,s1⟩:=lN (p.take 124);have⟨x,hx⟩:=eX (j3 (p.take 124));have⟨y,hy⟩:=eX (j4 (p.drop 124));rw[<-hx] at HS s0 s1;rw[<-hy] at HG;have hxw:IntKind.u64.wrap x=x:=AI;clear b1 b2 AU s0 s1 HP;change Af _ at hx hy;by_cases M9:y=x
  .have Hop:=aa (Dt dh.o (by rw[<-hx.o,<-hy.o,M9]));subst M9;have⟨hd,hhd⟩:=eX (p.headD 0);rw[<-hhd] at Uh Hop;have aH:=(B2.o.cell Uh.p1).trans Uh.q1;have oJ:∀W:Wo,W.heap=W2.heap->W.cell? (an b o)=some (io hd):=λW hW=>(by rw[Qau (w:=W2) zdS];exact aH);have je:Af (∀W,ci W2 W->Calls prog 191 #[el b (o+1) 123 123] W λe w' =>∃v',e= .returned v'/\kR w' W v' ((p.take 124).drop 1)/\ci W w'):=λW hW=>by have hl:((p.take 124).drop 1).length=123:=zav;have h:=Tryz.bytes_Clone_at (an b (o+1)) 123 123 ((p.take 124).drop 1) W hl Fd (λi hi=>by rw[dP,hW.cell (Qn Uh.p1 B2.o.size),B2.o.cell Uh.p1,XB];refine hr.q1 (1+i) _ ?_;rw[Qt,Qe,Zb,Ze,Xo Mx,Qf (by have:=dh.o;omega)];rfl);refine h.mono ?_;rintro e w' ⟨v',rfl,h1,-,h3⟩;exact⟨v',rfl,by rw[kR,hl];exact h1,h3⟩
   clear hhd;go_upto_region 7 with(first
    |(go_at_call 186;refine PP HG.o ?_)
    |(go_at_call 182;refine PP HS.o ?_))
   go_region_held3 (λW=>W.cell? (an b o)=some (io hd)) (first|with_reducible exact aH|with_reducible exact q3|go_keep)
    (first
     |((go_at_call 191);(with_reducible refine(je.o _ pi).mono ?_);rintro e W3 ⟨v3,rfl,o3,b3⟩;have q3:=(b3.cell (p:=an b o) (Qn Uh.p1 B2.o.size)).trans aH;have O3:=aa o3;have B3:=aa b3;clear o3 b3)
     |((go_at_call 191);(with_reducible refine(je.o _ pi.drew).mono ?_);rintro e W3 ⟨v3,rfl,o3,b3⟩;have q3:=(b3.cell (p:=an b o) (Qn Uh.p1 B2.o.size)).trans aH;have O3:=aa o3;have B3:=aa (xp b3);clear o3 b3))
   all_goals
    go_wp2;go_ret3;exact⟨Pd B2.o B3.o,.inr ⟨_,_,_,Hop.o,rfl,kR.low O3.o B2.o.size⟩⟩
  .have Hop:Af (dy p=none):=by show _=_;rw[dy,Xd (λh=>M9 (by rw[hx.o,hy.o];exact h.2))]
   go_wp2_with(first
    |(go_at_call 186;refine PP HG.o ?_)
    |(go_at_call 182;refine PP HS.o ?_))
   go_ret3;exact⟨B2.o,.inl ⟨Hop.o,rfl⟩⟩
 .have h1:¬((m:Int)=128):=by omega
  have ho:dy p=none:=by rw[dy,Xd Mx]
  clear h AB xA H hm ag2;go_in;go_wp2;go_ret3;exact⟨pi,.inl ⟨ho,rfl⟩⟩
variable{z:Nat}{T:Fy}{a b c d e f g h:Va}{r:Ox}
def nW(w:Wo)(xs:List Va)(T:TypeId):∃W,W=w.alloc (.cells xs.toArray T)/\aq W w T xs/\Below w w W:=⟨_,rfl,ar w xs T,aF _ _⟩
def nV(w:Wo)(xs:List Va)(T:TypeId):∃W,W=w.alloc (.cells xs.toArray T)/\Af (aq W w T xs)/\Af (Below w w W):=nW w xs T
def gh(H:aq w z T (a::b::r)):w.cell? z=some a/\w.cell? ⟨z,1,none⟩=some b:=⟨H.cell rfl,H.cell rfl⟩
def ra(H:aq w z T (a::b::c::r)):w.cell? z=some a/\w.cell? ⟨z,1,none⟩=some b/\w.cell? ⟨z,2,none⟩=some c:=⟨H.cell rfl,H.cell rfl,H.cell rfl⟩
def mm(H:aq w z T (a::b::c::d::r)):w.cell? z=some a/\w.cell? ⟨z,1,none⟩=some b/\w.cell? ⟨z,2,none⟩=some c/\w.cell? ⟨z,3,none⟩=some d:=⟨H.cell rfl,H.cell rfl,H.cell rfl,H.cell rfl⟩
def cL5(H:aq w z T (a::b::c::d::e::r)):w.cell? z=some a/\w.cell? ⟨z,1,none⟩=some b/\w.cell? ⟨z,2,none⟩=some c/\w.cell? ⟨z,3,none⟩=some d/\w.cell? ⟨z,4,none⟩=some e:=⟨H.cell rfl,H.cell rfl,H.cell rfl,H.cell rfl,H.cell rfl⟩
def cL6(H:aq w z T (a::b::c::d::e::f::r)):w.cell? z=some a/\w.cell? ⟨z,1,none⟩=some b/\w.cell? ⟨z,2,none⟩=some c/\w.cell? ⟨z,3,none⟩=some d/\w.cell? ⟨z,4,none⟩=some e/\w.cell? ⟨z,5,none⟩=some f:=⟨H.cell rfl,H.cell rfl,H.cell rfl,H.cell rfl,H.cell rfl,H.cell rfl⟩
def cL7(H:aq w z T (a::b::c::d::e::f::g::r)):w.cell? z=some a/\w.cell? ⟨z,1,none⟩=some b/\w.cell? ⟨z,2,none⟩=some c/\w.cell? ⟨z,3,none⟩=some d/\w.cell? ⟨z,4,none⟩=some e/\w.cell? ⟨z,5,none⟩=some f/\w.cell? ⟨z,6,none⟩=some g:=⟨H.cell rfl,H.cell rfl,H.cell rfl,H.cell rfl,H.cell rfl,H.cell rfl,H.cell rfl⟩
def cL8(H:aq w z T (a::b::c::d::e::f::g::h::r)):w.cell? z=some a/\w.cell? ⟨z,1,none⟩=some b/\w.cell? ⟨z,2,none⟩=some c/\w.cell? ⟨z,3,none⟩=some d/\w.cell? ⟨z,4,none⟩=some e/\w.cell? ⟨z,5,none⟩=some f/\w.cell? ⟨z,6,none⟩=some g/\w.cell? ⟨z,7,none⟩=some h:=⟨H.cell rfl,H.cell rfl,H.cell rfl,H.cell rfl,H.cell rfl,H.cell rfl,H.cell rfl,H.cell rfl⟩
def fR2(H:aq w z T cs):w.frozen? ⟨z,0,none⟩=false/\w.frozen? ⟨z,1,none⟩=false:=⟨H.free 0,H.free 1⟩
def fR3(H:aq w z T cs):w.frozen? ⟨z,0,none⟩=false/\w.frozen? ⟨z,1,none⟩=false/\w.frozen? ⟨z,2,none⟩=false:=⟨H.free 0,H.free 1,H.free 2⟩
def WI(H:aq w z T cs):w.frozen? ⟨z,0,none⟩=false/\w.frozen? ⟨z,1,none⟩=false/\w.frozen? ⟨z,2,none⟩=false/\w.frozen? ⟨z,3,none⟩=false:=⟨H.free 0,H.free 1,H.free 2,H.free 3⟩
def fR5(H:aq w z T cs):w.frozen? ⟨z,0,none⟩=false/\w.frozen? ⟨z,1,none⟩=false/\w.frozen? ⟨z,2,none⟩=false/\w.frozen? ⟨z,3,none⟩=false/\w.frozen? ⟨z,4,none⟩=false:=⟨H.free 0,H.free 1,H.free 2,H.free 3,H.free 4⟩
def fR6(H:aq w z T cs):w.frozen? ⟨z,0,none⟩=false/\w.frozen? ⟨z,1,none⟩=false/\w.frozen? ⟨z,2,none⟩=false/\w.frozen? ⟨z,3,none⟩=false/\w.frozen? ⟨z,4,none⟩=false/\w.frozen? ⟨z,5,none⟩=false:=⟨H.free 0,H.free 1,H.free 2,H.free 3,H.free 4,H.free 5⟩
def fR7(H:aq w z T cs):w.frozen? ⟨z,0,none⟩=false/\w.frozen? ⟨z,1,none⟩=false/\w.frozen? ⟨z,2,none⟩=false/\w.frozen? ⟨z,3,none⟩=false/\w.frozen? ⟨z,4,none⟩=false/\w.frozen? ⟨z,5,none⟩=false/\w.frozen? ⟨z,6,none⟩=false:=⟨H.free 0,H.free 1,H.free 2,H.free 3,H.free 4,H.free 5,H.free 6⟩
def fR8(H:aq w z T cs):w.frozen? ⟨z,0,none⟩=false/\w.frozen? ⟨z,1,none⟩=false/\w.frozen? ⟨z,2,none⟩=false/\w.frozen? ⟨z,3,none⟩=false/\w.frozen? ⟨z,4,none⟩=false/\w.frozen? ⟨z,5,none⟩=false/\w.frozen? ⟨z,6,none⟩=false/\w.frozen? ⟨z,7,none⟩=false:=⟨H.free 0,H.free 1,H.free 2,H.free 3,H.free 4,H.free 5,H.free 6,H.free 7⟩
def J8(pl n:Nat)(wv:Va):List Va:=[.slice (some ⟨pl,0,none⟩) n n,wv,.int .i64 (-1),.bool false]
structure cF(w:Wo)(d pl:Nat)(bl:List (List Int)):Prop where
 own:aq w d 112 (J8 pl bl.length ())
 eP:aq w pl 200 (bl.flatten.map (.int .u8))
 ne:d≠pl
 size:∀b∈bl,b.length=128
 byte:∀b∈bl,∀x∈b,aI x
 n0:16<=bl.length
 n1:bl.length<=4096
def zN(w:Wo)(d pl n:Nat)(wv:Va)(h:aq w d 112 (J8 pl n wv)):
  Calls prog 46 #[li d] w (iF (ac n) λw' =>w=w') :=by
 have x0:=h.j0;clear h;go_in;go_wp2;exact vl
def zL(w:Wo)(d pl n:Nat)(wv:Va)(h:aq w d 112 (J8 pl n wv)):
  Calls prog 111 #[li d] w (iF (ac 0) λw' =>w=w') :=by
 obtain⟨x0,-,-,x3⟩:=mm h;have q:=λ(w:Wo) (a:GB) (n c:Nat)=>Qgl (P:=prog) w 105 200 a n c 0 0 underlying105;clear h;go_in;go_wp2;exact vl
def yg(w:Wo)(d pl n:Nat)(wv:Va)(h:aq w d 112 (J8 pl n wv)):
  Calls prog 112 #[li d] w (iF (ac 0) λw' =>w=w') :=by
 have x0:=h.j2;clear h;go_in;go_wp2;exact vl
def Rx(k:Nat)(hk:0<k)(v:Va)(m:Nat):madeCells (replicate k v).toArray m=(replicate m v).toArray:=by
 apply Qev;apply Qaf
 .simp[madeCells]
 .intro i h1 h2;have h3:i%k<k:=Nat.mod_lt _ hk;simp[madeCells,h3]
def Vw(n:Nat):madeCells (Value.agg (replicate 128 (io 0)).toArray).cells (n*128)=(replicate (n*128) (io 0)).toArray:=Rx 128 Fd _ _
def iy:List Int:=replicate 128 0
def Fq(n:Nat):(replicate n iy).flatten.map (Value.int .u8)=replicate (n*128) (io 0):=by
 induction n with
 |zero=>rfl
 |succ n ih=>
  rw[Qcy,Qbf,QL,ih,Qfs,Nat.one_mul,Qcm (n*128) 128,<-Qas];rw[iy,Qdg]
def ahM:(prog.info? 200).map (λi=>(i.zero,i.size,i.bytes))=some (some (.agg (replicate 128 (io 0)).toArray),128,128):=KJ
def Dy(n:Nat)(hn:n<=4096)(w:Wo):(Instr.makeSlice 105 (ac n) (ac n)).run prog w= .ok (el w 0 n n) (w.alloc (.cells (replicate (n*128) (io 0)).toArray 200)):=by obtain⟨i0,hi,oI,mM,xw⟩:=Qdq ahM;have h:=run_makeSlice (P:=prog) w 105 200 i0 _ underlying105 hi oI .i64 .i64 n n Mx (Qcp _) (by rw[mM,Xt];omega) (by rw[xw];omega) Mx;rw[mM,Xt,Vw] at h;exact h
def Cx(w:Wo)(n:Nat)(h0:16<=n)(h1:n<=4096):
  Calls prog 13 #[ac n] w λe w' =>∃d pl,e= .returned (.tuple #[li d,ac 0])/\cF w' d pl (replicate n iy)/\w<=d/\w<=pl/\ci w w' :=by
 have⟨W1,aW⟩:=eX (qr w (replicate (n*128) (io 0)).toArray 200);have⟨pl,dh⟩:=eX w.heap.size;have yX:(Instr.makeSlice 105 (ac n) (ac n)).run prog w= .ok (el pl 0 n n) W1:=by rw[aW,dh];exact Dy n h1 w
 have P1:Af (aq W1 pl 200 (replicate (n*128) (io 0))):=by show aq _ _ _ _;rw[aW,dh];exact ar _ _ _
 have B1:Af (ci w W1):=aW▸(aF _ _);have HP:=aa dh;have H:=dK h0 h1;have g0:¬(n:Int)<16:=Mx;have g1:¬(4096:Int)<n:=Mx;clear aW dh h0 h1;go_in;go_wp2_with fail;go_ret2;have hb:=aF W1 (.cells #[el pl 0 n n,(),ac (-1),.bool false] 112);have hB:=Pd B1.o hb;refine⟨_,rfl,pl,⟨?_,?_,?_,?_,?_,?_,?_⟩,B1.o.size,by rw[HP.o];exact go,hB⟩
 .rw[QK];exact ar W1 [_,_,_,_] _
 .rw[Fq];exact P1.o.on hb
 .have:=P1.o.lt;omega
 .intro b hb;rw[QJ hb];simp[iy]
 .intro b hb x hx;rw[QJ hb] at hx;unfold iy at hx;rw[QJ hx];exact⟨Fd,Fd⟩
 .rw[QK];exact H.p1
 .rw[QK];exact H.q1
def nE(A:Fr)(m s:Nat)(n:Int)(p:Nat)(hp:p=A.length):lB (A++replicate m 0) p s n=(A++mH s n)++replicate (m - s) 0:=by subst hp;rw[lB,Qfj,<-Qav,Qei,List.drop_replicate]
def abo(n:Int)(h0:0<=n)(h1:n<256):mH 1 n=[n]:=by simp only[mH];rw[show(256:Int)^0=1 from rfl,Int.ediv_one,Qhj h0 h1]
def YL(l:Fr):(l.flatMap (mH 2)).length=2*l.length:=by
 induction l with
 |nil=>rfl
 |cons x r ih=>rw[QH,Qo,ih,de,QF];omega
def GD(s:Nat)(l:Fr):∀x∈l.flatMap (mH s),aI x:=λx hx=>by obtain⟨y,_,h⟩:=QT.1 hx;exact eW _ _ _ h
def sY(l:Fr)(h:l.length<=61):∀x∈qy l,aI x:=by
 intro x hx;unfold qy at hx;obtain rfl|hx:=QA.1 hx
 .exact⟨Mx,Mx⟩
 .exact GD 2 l x hx
def kY(l:Fr)(k:Nat):List Int:=((l.length:Int)::(l.take k).flatMap (mH 2))++replicate (2*(l.length - k)) 0
def oG(l:Fr)(k:Nat)(h:k<=l.length):(kY l k).length=1+2*l.length:=by rw[kY,Qo,QF,YL,Qu,QK,Zh h];omega
def Ic(l:Fr)(h:l.length<=61):lB (replicate (1+2*l.length) 0) 0 1 l.length=kY l 0:=by have:=nE [] (1+2*l.length) 1 l.length 0 rfl;rw[QZ] at this;rw[this,abo _ Mx Mx];unfold kY;simp
def Ie(l:Fr)(k:Nat)(h:k<l.length):lB (kY l k) (1+2*k) 2 l[k]=kY l (k+1):=by unfold kY;rw[nE _ _ 2 _ _ (by rw[QF,YL,Qu,Zh Mx];omega)];rw[XJ h,QP];rw[show 2*(l.length - k) - 2=2*(l.length - (k+1)) by omega];simp
def yQ(l:Fr):kY l l.length=qy l:=by unfold kY qy;simp
def rN(w:Wo)(k:Int)(hk:k=4\/k=5):Calls prog 126 #[io k] w (iF true λw' =>w=w') :=by
 obtain rfl|rfl:=hk
 .go_in;go_wp2;exact vl
 .go_in;go_wp2;exact vl
def dY(w:Wo)(n:Int)(h0:0<=n)(h1:n<=100000):Calls prog 30 #[ac n] w (iF (ac (aR n)) λw' =>w=w') :=by
 by_cases hn:n<1
 .have e:aR n=0:=by rw[aR,Xo hn]
  rw[e];go_in;go_wp2;exact vl
 .have e:aR n=(n - 1)/61+1:=by rw[aR,Xd hn]
  have nZ:wrap64 (n - 1)=n - 1:=vW;have hq:(n - 1).tdiv 61=(n - 1)/61:=Int.tdiv_eq_ediv_of_nonneg Mx;have fp:wrap64 ((n - 1)/61)=(n - 1)/61:=vW;have DZ:wrap64 ((n - 1)/61+1)=(n - 1)/61+1:=vW;rw[e];clear h0 h1 e;go_in;go_wp2;exact vl
def Made(w:Wo)(eL:Fr)(e:Ending)(w' :Wo):Prop:=
 ∃g,w.heap.size<=g/\e= .returned (.tuple #[.slice (some ⟨g,0,none⟩) 128 128,.int .i64 0])/\dn w' g eL/\Below w w w'
def lX(w:Wo)(k:Int)(hk:k=4\/k=5)(v:Va)(l:Fr)(h:Ns w w .u16 v l)(hl:l.length<=61)(hb:∀x∈l,0<=x/\x<65536):
  Calls prog 58 #[io k,v] w (Made w (encI k l)):=by
 obtain⟨A,c,rfl,AB,xA⟩:=h.form;have⟨m,hm⟩:=eX l.length;have H:=aa h;rw[<-hm] at H|-;have Hm:=dK hm (by omega:m<=61);have HR:=aa (rN w k hk);have Hb:=aa hb;have Hk:Af (aI k):=by obtain rfl|rfl:=hk<;>exact⟨Fd,Fd⟩
 have⟨g,hg⟩:=eX w.heap.size;have⟨W1,aW⟩:=eX (w.alloc (.cells (replicate (1+2*m) (io 0)).toArray 5));have yX:(Instr.makeSlice 95 (ac (1+2*(m:Int))) (ac (1+2*(m:Int)))).run prog w= .ok (el g 0 (1+2*m) (1+2*m)) W1:=by have:=eV underlying95 rD (eC .u8 0) Fd (1+2*m) Jx w;rw[show((1+2*m:Nat):Int)=1+2*(m:Int) by omega] at this;rw[aW,hg];exact this
 have O1:Af (dn W1 g (replicate (1+2*m) 0)):=by
  have h1:aq W1 g 5 (replicate (1+2*m) (io 0)):=by rw[aW,hg];exact ar _ _ _
  have h2:=aq.JZ (bs:=replicate (1+2*m) 0) (w:=W1) (g:=g) (by rw[Qdg];exact h1);exact h2
 have B1:Af (Below g w W1):=by rw[aW,hg];exact aF _ _
 have G:=aa hg;have oc:¬(61:Int)<m:=Jx;have xB:(0:Int)<=m:=Mx;have nZ:wrap64 (2*(m:Int))=2*(m:Int):=zaM;have fp:wrap64 (1+2*(m:Int))=1+2*(m:Int):=zaM;have DZ:IntKind.u64.wrap (m:Int)=m:=by have:=Hm.o;exact AI
 have HP:=aa (jM W1 g 0 (1+2*m) (1+2*m) 0 1 (replicate (1+2*m) 0) m O1.o Sv Fd Mx (by have:=Hm.o;simp;omega) ⟨xB,by have:=Hm.o;simp;omega⟩);have ej:lB (replicate (1+2*m) 0) (0+0) 1 m=kY l 0:=by rw[Hm.p1];exact Ic l Jx
 rw[ej] at HP;clear h hl hb hm hk hg aW AB xA ej;go_in;go_wp2_with(first
  |(go_at_call 126;refine HR.o.mono ?_;rintro e W2 ⟨rfl,rfl⟩)
  |(go_at_call 107;refine HP.o.mono ?_;rintro e W2 ⟨rfl,o2,g2,s2⟩;have O2:=aa o2;have B2:=aa (B1.o.grown g2 (by rw[G.o];exact B1.o.size) zdc);clear o2 g2 s2))
 clear yX nZ fp DZ;go_loopw [28] (λi wr=>∃j:Nat,j<=m/\i= ac j/\Af (dn wr g (kY l j)/\Below g w wr)) (λi _=>m - (intOf i).toNat)
 .exact⟨0,lm,rfl,O2.o,B2.o⟩
 .obtain⟨j,hj,rfl,hK⟩:=hrel;have O3:=aa hK.p1;have B3:=aa hK.q1;clear hK O2 B2;by_cases aJ:j<m
  .have hj0:(0:Int)<=j:=(by omega);have JK:(j:Int)<m:=Mx;have wI:j<l.length:=Jx;have nZ:wrap64 (2*(j:Int))=2*(j:Int):=zaM;have fp:wrap64 (1+2*(j:Int))=1+2*(j:Int):=zaM;obtain⟨b,o,c',hv,-,-,hbB,iH⟩:=H.o.cells Mx;injection hv with e1 e2 e3;subst e1;subst e3;clear e2;have hc:=(B3.o.cell (p:=an b (o+j)) (by rw[G.o];exact hbB)).trans (iH j wI);rw[Qe,Qf wI,Qdu] at hc;have hx:=Hb.o _ (QI wI);have HP:=jM wr g 0 (1+2*m) (1+2*m) (1+2*j) 2 (kY l j) l[j] O3.o zcW Fd Mx zcW ⟨hx.1,by have:=hx.2;simp;omega⟩;rw[show((1+2*j:Nat):Int)=1+2*(j:Int) by omega,QR,Ie l j wI] at HP;have tp:=aa HP;obtain⟨gd,xx⟩:=hx;generalize l[j]=x at*;have DZ:IntKind.u64.wrap x=x:=AI;have bj:=aa aJ;clear HP iH aJ hj hbB wI;go_wp2_with(go_at_call 107;refine tp.o.mono ?_;rintro e W4 ⟨rfl,o4,g4,s4⟩;have O4:=aa o4;have B4:=aa (B3.o.grown g4 (by rw[G.o];exact B3.o.size) zdc);clear o4 g4 s4);go_roundw
   .exact⟨j+1,bj.o,zcL,O4.o,B4.o⟩
   .have:=bj.o;exact zaK
  .obtain rfl:j=m:=(by omega);have h1:=O3.o.bs (o:=0) (n:=1+2*j) (c:=1+2*j) zbm go (by have:=Hm.o;unfold maxLen;omega) (by rw[Hm.p1,yQ];exact sY l Jx);rw[Zl,Qj zbm,show kY l j=qy l by rw[Hm.p1];exact yQ l] at h1;have HS:=aa (uY wr k _ (qy l) Hk.o h1 (by rw[yR];have:=Hm.o;omega));clear h1 aJ hj;go_wp2_with(go_at_call 108;refine HS.o.mono ?_;rintro e W4 ⟨rfl,o4,b4⟩;have O4:=aa o4;have B4:=aa (B3.o.trans (b4.mono (by rw[G.o];exact B3.o.size)));clear o4 b4);go_ret2;exact⟨wr.heap.size,by rw[G.o] at B3;exact B3.o.size,rfl,O4.o,by rw[<-G.o];exact B4.o⟩
end
section
variable {gf x : Nat}{a b w : Wo}{α : Type}{g : Operand}{ps : Array Tmp}{assign body : Code}{Q : Exit -> Act -> Wo -> Prop}{lb : Array Va}
structure fo(n x:Nat)(w w' :Wo):Prop where
 size:w.heap.size<=w'.heap.size
 block:∀k,k<n\/k=x->w'.heap[k]? =w.heap[k]?
def fo.trans{n:Nat}{c:Wo}(h:fo n x a b)(k:fo n x b c):fo n x a c:=⟨Qh h.size k.size,λi hi=>(k.block i hi).trans (h.block i hi)⟩
def tY{n m:Nat}(h:Below m a b)(hn:n<=m)(hx:x<m):fo n x a b:=⟨h.size,λi hi=>h.block i Mx⟩
def fo.cell{n:Nat}(h:fo n x a b){p:Addr}(hp:p.block<n\/p.block=x):b.cell? p=a.cell? p:=Qau (w:=a) (h.block p.block hp)
section
variable {F : Fence}{n : Nat}{P : Program}
def range_box{a:Act}(ZI:F.round=none)(h1:1<=n)
  (hg:a.eval g= .func (.func gf) #[] lb) (hFg:F.fn gf) (eg:∀args w,(callFunc gf args).run P w= .ok (.enter gf args) w) (lC:α->Array Va) (fc:∀x,(lC x).size=ps.size)
  (n0 Bx:Nat) (jU:n0<=w) (j8:Bx<w) (xs:List α) (I:List α->Wo->Prop) (h0:∀W,ci w W->I [] W)
  (hIb:∀pre A C,I pre A->A.grownBy C (some Bx)->I pre C)
  (hIr:∀pre A l o o',I pre A->w.heap.size<=l->A.heap[l]? =some o->o.isCells=false->I pre (A.putObj l o'))
  (hit:∀(l:Nat) (J:List α->Wo->Prop) (W:Wo),ci w W->(∀pre A C,J pre A->A.grownBy C (some Bx)->J pre C)->
   (∀k (hk:k<xs.length) W1,J (xs.take k) W1->YieldAt F (n - 1 - 1) P l (lC xs[k]) W1 λe W' =>e= .returned true/\J (xs.take (k+1)) W'/\fo n0 Bx W1 W')->J [] W->
   CallsIn F (n - 1) P gf (#[.func (.yield l) #[] #[]]++lb) W λe W' =>(∃v,e= .returned v)/\J xs W')
  (a₁:α->Act)
  (lJ:∀(l:Nat) (x:α) (W:Wo) (K:Act->Wo->Prop),K (a₁ x) W->
   assign.wpIn (F.inRound l) (n - 1 - 1) P (Exit.then K (λ_ _ _=>False)) {tmps:=(ps.zip (lC x)).foldl (λt (p,v)=>t.setIfInBounds p v) a.tmps,defers:=[]} W)
  (uM:∀(l k:Nat) (hk:k<xs.length) (W:Wo),I (xs.take k) W->w.heap.size<=W.heap.size->
   body.wpIn (F.inRound l) (n - 1 - 1) P (λe _ W' =>e= .normal/\KeepsOthers W W'/\fo n0 Bx W W'/\I (xs.take (k+1)) W') (a₁ xs[k]) W)
  (kV:∀(D:Nat) (W:Wo),w<=D->I xs W->W.heap[D]? =some (.deferred (some []))->Q .normal {a with defers:={target:= .collected D,args:= #[]}::a.defers} W):
  (Code.rangeFunc g ps assign body).wpIn F n P Q a w:=by
 refine wpIn_rangeFunc λfn Nj=> ?_;rw[ZI];obtain⟨R,hR⟩:∃R:LoopState->Loop,R=λst=>{state:=st,pending:=none,fn,tmps:=a.tmps,params:=ps,assign,body,defers:=w.heap.size}:=⟨_,rfl⟩;have⟨W1,aW⟩:=eX ((w.alloc (.deferred (some []))).alloc (.loop (R .ready)));have e1:W1.heap[w.heap.size+1]? =some (.loop (R .ready)):=aW▸(cL w _ _);have e0:W1.heap[w.heap.size]? =some (.deferred (some [])):=aW▸(dx w _ _);have b1:ci w W1:=JQ;refine⟨w.heap.size+1,[{target:= .collected w.heap.size,args:= #[]}],W1,{target:= .fn (.func gf) lb,args:= #[.func (.yield (w.heap.size+1)) #[] #[]]},W1,gf,#[.func (.yield (w.heap.size+1)) #[] #[]]++lb,W1,?_,?_,?_,?_,λ_=>h1,?_⟩
 .exact zeq
 .simp only[resolve,hg];simp[go_sem]
 .intro f' tD;exact zet
 .exact zfM
 refine(hit (w.heap.size+1) (λpre W=>I pre W/\W.heap[w.heap.size+1]? =some (.loop (R .ready))/\W.heap[w.heap.size]? =some (.deferred (some []))) W1 b1 ?_ ?_ ⟨h0 W1 b1,e1,e0⟩).mono ?_
 .rintro pre A C ⟨i,l,d⟩ uc;have aJ:=(Qy.1 l).1;exact⟨hIb _ _ _ i uc,(uc.block _ aJ (λe=>zdL)).trans l,(uc.block _ Mx (λe=>zdL)).trans d⟩
 .rintro k hk W ⟨i,l,d⟩;have aJ:=(Qy.1 l).1;have hy:=run_yield (P:=P) (args:=lC xs[k]) l (by rw[hR];exact fc _);rw[hR] at hy;refine⟨fn,_,assign,body,hy,roundIn_of_wpIn Nj (lJ _ xs[k] W _ ⟨_,run_beginRound l zcm,?_⟩)⟩;have l2:(W.putObj (w.heap.size+1) (.loop {R .ready with state:= .busy})).heap[w.heap.size+1]? =some (.loop {R .ready with state:= .busy}):=World.putObj_heap_same aJ;have d2:(W.putObj (w.heap.size+1) (.loop {R .ready with state:= .busy})).heap[w.heap.size]? =some (.deferred (some [])):=(World.putObj_heap_other Mx).trans d;have b2:Below w W (W.putObj (w.heap.size+1) (.loop {R .ready with state:= .busy})):=belowK_b (w:=w) go W _ _ _ (Q0 _) l rfl rfl;refine Qit (uM _ k hk _ (hIr _ _ _ _ _ i (Q0 _) l rfl) zbT) ?_;exact zdW
 .rintro e W2 ⟨⟨v,rfl⟩,i,l,d⟩;have he:=run_endLoop (P:=P) l zcM;have hp:(R .ready).pending=none:=zcm;exact zeK
def sO{a:Act}(ZI:F.round=none)(h1:1<=n)
  (hg:a.eval g= .func (.func gf) #[] lb) (hFg:F.fn gf) (eg:∀args w,(callFunc gf args).run P w= .ok (.enter gf args) w) (lC:α->Array Va) (fc:∀x,(lC x).size=ps.size)
  (n0 Bx:Nat) (jU:n0<=w) (j8:Bx<w) (xs:List α) (I:List α->Wo->Prop) (h0:∀W,ci w W->I [] W)
  (hIr:∀pre A l o o',I pre A->w.heap.size<=l->A.heap[l]? =some o->o.isCells=false->I pre (A.putObj l o'))
  (hit:∀(l:Nat) (J:List α->Wo->Prop) (W:Wo),ci w W->
   (∀k (hk:k<xs.length) W1,J (xs.take k) W1->YieldAt F (n - 1 - 1) P l (lC xs[k]) W1 λe W' =>e= .returned true/\J (xs.take (k+1)) W'/\fo n0 Bx W1 W')->J [] W->
   CallsIn F (n - 1) P gf (#[.func (.yield l) #[] #[]]++lb) W λe W' =>(∃v,e= .returned v)/\J xs W')
  (a₁:α->Act)
  (lJ:∀(l:Nat) (x:α) (W:Wo) (K:Act->Wo->Prop),K (a₁ x) W->
   assign.wpIn (F.inRound l) (n - 1 - 1) P (Exit.then K (λ_ _ _=>False)) {tmps:=(ps.zip (lC x)).foldl (λt (p,v)=>t.setIfInBounds p v) a.tmps,defers:=[]} W)
  (uM:∀(l k:Nat) (hk:k<xs.length) (W:Wo),I (xs.take k) W->w.heap.size<=W.heap.size->
   body.wpIn (F.inRound l) (n - 1 - 1) P (λe _ W' =>e= .normal/\KeepsOthers W W'/\fo n0 Bx W W'/\I (xs.take (k+1)) W') (a₁ xs[k]) W)
  (kV:∀(D:Nat) (W:Wo),w<=D->I xs W->W.heap[D]? =some (.deferred (some []))->Q .normal {a with defers:={target:= .collected D,args:= #[]}::a.defers} W):
  (Code.rangeFunc g ps assign body).wpIn F n P Q a w:=by
 refine wpIn_rangeFunc λfn Nj=> ?_;rw[ZI];obtain⟨R,hR⟩:∃R:LoopState->Loop,R=λst=>{state:=st,pending:=none,fn,tmps:=a.tmps,params:=ps,assign,body,defers:=w.heap.size}:=⟨_,rfl⟩;have⟨W1,aW⟩:=eX ((w.alloc (.deferred (some []))).alloc (.loop (R .ready)));have e1:W1.heap[w.heap.size+1]? =some (.loop (R .ready)):=aW▸(cL w _ _);have e0:W1.heap[w.heap.size]? =some (.deferred (some [])):=aW▸(dx w _ _);have b1:ci w W1:=JQ;refine⟨w.heap.size+1,[{target:= .collected w.heap.size,args:= #[]}],W1,{target:= .fn (.func gf) lb,args:= #[.func (.yield (w.heap.size+1)) #[] #[]]},W1,gf,#[.func (.yield (w.heap.size+1)) #[] #[]]++lb,W1,?_,?_,?_,?_,λ_=>h1,?_⟩
 .exact zeq
 .simp only[resolve,hg];simp[go_sem]
 .intro f' tD;exact zet
 .exact zfM
 refine(hit (w.heap.size+1) (λpre W=>I pre W/\W.heap[w.heap.size+1]? =some (.loop (R .ready))/\W.heap[w.heap.size]? =some (.deferred (some []))) W1 b1 ?_ ⟨h0 W1 b1,e1,e0⟩).mono ?_
 .rintro k hk W ⟨i,l,d⟩;have aJ:=(Qy.1 l).1;have hy:=run_yield (P:=P) (args:=lC xs[k]) l (by rw[hR];exact fc _);rw[hR] at hy;refine⟨fn,_,assign,body,hy,roundIn_of_wpIn Nj (lJ _ xs[k] W _ ⟨_,run_beginRound l zcm,?_⟩)⟩;have l2:(W.putObj (w.heap.size+1) (.loop {R .ready with state:= .busy})).heap[w.heap.size+1]? =some (.loop {R .ready with state:= .busy}):=World.putObj_heap_same aJ;have d2:(W.putObj (w.heap.size+1) (.loop {R .ready with state:= .busy})).heap[w.heap.size]? =some (.deferred (some [])):=(World.putObj_heap_other Mx).trans d;have b2:Below w W (W.putObj (w.heap.size+1) (.loop {R .ready with state:= .busy})):=belowK_b (w:=w) go W _ _ _ (Q0 _) l rfl rfl;refine Qit (uM _ k hk _ (hIr _ _ _ _ _ i (Q0 _) l rfl) zbT) ?_;exact zdW
 .rintro e W2 ⟨⟨v,rfl⟩,i,l,d⟩;have he:=run_endLoop (P:=P) l zcM;have hp:(R .ready).pending=none:=zcm;exact zeK
end
end
attribute [local go_sem] Oper.semAt_some
section
variable{bs:Fr}
def kx(body:Fr):List (Int×Int):=(range 61).map λ(i:Nat)=>((i:Int),cK body (1+2*i) 2)
def jP(body:Fr):(kx body).length=61:=by simp[kx]
def Cu(body:Fr)(k:Nat)(hk:k<(kx body).length):(kx body)[k]=((k:Int),cK body (1+2*k) 2):=by simp[kx]
def KT{a b:Nat}(h:a<=b):(256:Int)^a<=256^b:=by obtain⟨d,rfl⟩:=Nat.le.dest h;rw[Int.pow_add];have h1:(0:Int)<256^d:=Qgn Fd;have h2:(0:Int)<256^a:=Qgn Fd;have:=Int.mul_le_mul_of_nonneg_left (show(1:Int)<=256^d by omega) (Qca h2);rwa[Int.mul_one] at this
def cW(hb:∀x∈bs,aI x)(p s:Nat):0<=cK bs p s/\cK bs p s<256^s:=by have h:=lR ((bs.drop p).take s) (λx hx=>hb x (Q6 (Za hx)));refine⟨h.1,Qgw h.2 ?_⟩;rw[Qu,Zt];exact KT (Qdj _ _)
def Bs.acs{w w' :Wo}{n x:Nat}{v:Va}(h:Bs w n v bs)(hb:fo n x w w'):Bs w' n v bs:=
 ⟨h.1.keep λ_ hp=>hb.cell (.inl hp),h.2⟩
def Dv(w:Wo)(A:GB)(m c:Nat):Calls prog 131 #[am A m c] w (iF (.func (.func 192) #[] #[w]) λw' =>w' =w.alloc (.cells #[am A m c] 95)):=by go_in;go_wp2;exact vl
def Dw(n:Nat)(hn:1<=n)(l n0 Bx:Nat)(A:GB)(c:Nat)(body:Fr)(hl:body.length=123)(J:List (Int×Int)->Wo->Prop)
  (hY:∀k (hk:k<(kx body).length) W1,J ((kx body).take k) W1->YieldAt Fence.wide (n - 1) prog l #[.int .i64 (kx body)[k].1,.int .u16 (kx body)[k].2] W1 λe W' =>e= .returned true/\J ((kx body).take (k+1)) W'/\fo n0 Bx W1 W')
  (W:Wo) (jU:n0<=W) (aH:W.cell? Bx=some (.slice A 123 c)) (hb:Bs W n0 (.slice A 123 c) body) (h0:J [] W):
  CallsIn Fence.wide n prog 192 #[.func (.yield l) #[] #[],Bx] W λe W' =>(∃v,e= .returned v)/\J (kx body) W' :=by
 refine Qfc func192 rfl trivial ?_ rfl;simp only[ntmps192,QW,QF,Xq,Nat.reduceAdd,Nat.reduceSub,Xv,Xw,Xx,Xy,QZ,Qaj];gi_wp2;gi_loopw [6] (λi wr=>∃k:Nat,k<=61/\i= .int .i64 k/\wr.cell? Bx=some (.slice A 123 c)/\Af (Bs wr n0 (.slice A 123 c) body/\n0<=wr/\J ((kx body).take k) wr)) (λi _=>61 - (intOf i).toNat)
 .exact⟨0,Fd,rfl,aH,hb,jU,h0⟩
 .obtain⟨k,hk,rfl,hc,hK⟩:=hrel;obtain⟨HB,HN,HJ,Hl⟩:=rx hK.p1 hK.p2 hK.q2 hl;clear hK aH hb h0 hl jU;by_cases aJ:k<61
  .have SK:(0:Int)<=k:=(by omega);have hk1:(k:Int)<61:=Mx;have nZ:wrap64 (2*(k:Int))=2*(k:Int):=vW;have fp:wrap64 (1+2*(k:Int))=1+2*(k:Int):=vW;have hG:=lf wr n0 (.slice A 123 c) body HB.o (1+2*k) 2 Fd (by have:=Hl.o;omega) (by have:=Hl.o;omega);rw[show((1+2*k:Nat):Int)=1+2*(k:Int) by omega] at hG;have HG:=aa hG;obtain⟨x0,x1⟩:=cW HB.q1 (1+2*k) 2;have hy:=hY k (by rw[jP];exact aJ) wr HJ.o;rw[Cu] at hy;have⟨x,hx⟩:=eX (cK body (1+2*k) 2);rw[<-hx] at HG x0 x1;simp only[<-hx] at hy;have DZ:IntKind.u16.wrap x=x:=(by simp[IntKind.wrap,IntKind.signed,IntKind.bits];simp at x1;omega);have HY:=aa hy;have bj:=aa aJ;clear hG hx hy aJ hk x1;gi_upto_region 4 with(refine⟨trivial,?_⟩;gi_at_call 186;refine(Qdb.2 HG.o).mono ?_;rintro e w' ⟨rfl,rfl⟩);obtain⟨fn,tmps,assign,bd,hy,Nr⟩:=HY.o;gi_wp2;refine Nr.mono ?_;rintro e W3 ⟨rfl,Nu,jW⟩;have Hc3:=(jW.cell (p:=⟨Bx,0,none⟩) (.inr rfl)).trans hc;clear hy Nr hc;change Af _ at Nu jW;gi_wp2;go_roundw
   .exact⟨k+1,bj.o,zcL,Hc3,HB.o.acs jW.o,Qh HN.o jW.o.size,Nu.o⟩
   .have:=bj.o;exact zaK
  .obtain rfl:k=61:=(by omega);have h1:=HJ.o;rw[Qj (by rw[jP];exact Qg _)] at h1;have H1:=aa h1;clear h1 aJ hk;gi_wp2;go_end0;exact⟨⟨_,rfl⟩,H1.o⟩
variable{w:Wo}{e t t' :Fy}{body p:Fr}{b g:Nat}{u v x y:Va}{k:Int}
def lQ{P:ST}{fn:Func}{p q:Tmp}{a b:Addr}{tmps:Zvv}(h:fn.results= #[.cell p t,.cell q t'])(hp:tmps.getD p undef= .pointer (some a))(hq:tmps.getD q undef= .pointer (some b))
  (hl:(loadVar t a).run P w= .ok x w) (rf:(loadVar t' b).run P w= .ok y w):(results fn tmps).run P w= .ok (.tuple #[x,y]) w:=by
 simp only[results,h];simp only[Qif] at hp hq;simp[Result.andThen,hp,hq,hl,rf,asAddr]
def oE(h:w.cell? b=some x):(loadVar 64 (ol b)).run prog w= .ok x w:=by simp[go_sem,h]
def lT(h:w.cell? b=some x):(loadVar 36 (ol b)).run prog w= .ok x w:=by simp[go_sem,h]
def Fj(h:aq w g e [u])(v:Va):aq (w.setCell (ol g) v) g e [v]:=h.set 0 v
def aq.cell0(h:aq w g e [u]):w.cell? g=some u:=h.cell rfl
def abH(w:Wo)(k:Int)(p:Fr)(e:Ending)(w' :Wo):Prop:=
 Below w w w'/\((pB k p=none/\e= .returned (.tuple #[(),.int .i64 50]))\/∃l v,pB k p=some l/\e= .returned (.tuple #[v,.int .i64 0])/\aB w' w 30 .u16 v l)
def zeo{a:Nat}(ha:aq w a t [x])(hb:aq w b t' [y])(bT:a≠b):
  ((w.setCell (ol a) u).setCell (ol b) v).cell? a=some u/\((w.setCell (ol a) u).setCell (ol b) v).cell? b=some v:=
 ⟨((Fj ha u).az bT v).cell0,(Fj (hb.az (Xm bT) u) v).cell0⟩
def jO(h:dy p=some (k,body))(hb:∀x∈p,aI x):body.length=123/\aI k/\∀x∈body,aI x:=by
 unfold dy at h;split at h
 .rename_i h1
  have h2:=Qr h;have e1:p.headD 0=k:=XF Prod.fst h2;have e2:(p.take 124).drop 1=body:=XF Prod.snd h2;refine⟨by rw[<-e2];simp;omega,?_,λx hx=>hb x (Za (Q6 (e2▸hx)))⟩;rw[<-e1];cases p with
  |nil=>simp at h1
  |cons x r=>exact hb x Sv
 .cases h
def nH(h:Bs w w v p)(ho:dy p=some (k,body)):
  Calls prog 130 #[v] w λe w' =>∃A c,e= .returned (.tuple #[io k,am A 123 c,ac 0])/\kR w' w (am A 123 c) body/\Bs w' w' (am A 123 c) body/\ci w w' :=by
 refine(qM w v p h).mono ?_;rintro e w' ⟨b1,⟨h3,_⟩|⟨k',YP,v1,h3,rfl,h4⟩⟩
 .rw[ho] at h3;cases h3
 .rw[ho] at h3;have h5:=Qr h3;obtain⟨rfl,rfl⟩:=Prod.mk.inj h5;obtain⟨hl,-,hb⟩:=jO ho h.2;obtain⟨A,n,c,rfl⟩:=h4.bu;obtain rfl:n=123:=h4.len.trans hl;exact⟨A,c,rfl,h4,⟨Sl.bU h4,hb⟩,b1⟩
def Jr(w:Wo)(k:Int)(hk:k=4\/k=5)(v:Va)(p:Fr)(h:Bs w w v p)(eJ:dy p=none\/∃k' body,dy p=some (k',body)/\(k'≠k\/61<body.headD 0)):
  Calls prog 65 #[io k,v] w (abH w k p):=by
 have hd:Af (pB k p=none):=by
  show _=_;unfold pB;obtain h1|⟨k',body,h1,h2⟩:=eJ
  .rw[h1]
  .rw[h1];simp only;rw[Xd];rintro⟨rfl,-,h3,-⟩;obtain h2|h2:=h2
   .exact h2 rfl
   .omega
 obtain⟨A,c,rfl,-,-⟩:=h.1.form;have⟨W0,aY⟩:=eX ((w.alloc (.cells #[()] 64)).alloc (.cells #[ac 0] 36));have R1:Af (aq W0 w 64 [()]):=by show _=_;rw[aY];exact dx w _ _
 have R2:Af (aq W0 (w.heap.size+1) 36 [ac 0]):=zbJ;have B0:Af (ci w W0):=zbx;have HR:=aa (λW=>rN W k hk);have jr:Bs W0 W0 (am A p.length c) p:=⟨(h.1.below B0.o).more B0.o.size,h.2⟩;have hO:=qM W0 _ p jr;have⟨m,hm⟩:=eX p.length;rw[<-hm] at hO|-;have SR:=aY.symm;have oN:Af (∀W2,ci W0 W2->abH w k p (.returned (.tuple #[(),ac 50])) ((W2.setCell (ol w) ()).setCell (ol (w.heap.size+1)) (ac 50))):=λW2 h2=>⟨((Pd B0.o h2).setCell go _).setCell (Q0 _) _,.inl ⟨hd.o,rfl⟩⟩;obtain h1|⟨k',body,h1,h2⟩:=eJ
 .have HO:Af (Calls prog 130 #[am A m c] W0 (iF (.tuple #[io 0,(),ac 10]) λw' =>ci W0 w')):=by
   refine Qaw hO ?_;rintro e w' ⟨b1,⟨-,rfl⟩|⟨_,_,_,h3,_⟩⟩
   .exact⟨rfl,b1⟩
   .rw[h1] at h3;cases h3
  clear h hk aY hm hO h1 jr hd HR;go_in;go_upto_region 2 with(go_at_call 130;refine Pe HO.o λW1 B1=> ?_);have⟨W2,cE⟩:=eX (W1.alloc (.cells #[()] 95));rw[<-cE];have B2:Af (ci W0 W2):=cE▸(Pd B1.o (aF W1 _));have S1:=aa (R1.o.on B2.o);have S2:=aa (R2.o.on B2.o);have y1:=S1.o.cell0;have y2:=S2.o.cell0;have f1:=S1.o.free 0;have f2:=S2.o.free 0;clear cE;go_wp2;obtain⟨r1,r2⟩:=zeo (u:= am none 0 0) (v:= ac 50) S1.o S2.o (XP (XL _));refine Qar (lQ rfl rfl rfl (oE r1) (lT r2)) rfl ?_;exact oN.o _ B2.o
 .obtain⟨fg,-,bO⟩:=jO h1 h.2;have HO:=aa (nH jr h1);rw[<-hm] at HO;have Ta:=aa fg;by_cases hkk:k' =k
  .subst hkk;have Ny:(61:Int)<body.headD 0:=by
    obtain h2|h2:=h2
    .exact absurd rfl h2
    .exact h2
   have jr:body[0]? =some (body.headD 0):=by
    cases body with
    |nil=>simp at fg
    |cons x r=>rfl
   have Hb0:=aa jr;have⟨x,hx⟩:=eX (body.headD 0);rw[<-hx] at Ny Hb0;clear h hk aY hm hO h1 h2 jr hd fg bO hx;go_in;go_upto_region 2 with(go_at_call 130;refine HO.o.mono ?_;rintro e W1 ⟨A1,c1,rfl,o1,s1,b1⟩;have S3:=aa s1;have B1:=aa b1;clear o1 s1 b1);obtain⟨b,o,c',hv,-,-,hr⟩:=S3.p1.row (by have:=Ta.o;omega);injection hv with e1 e2 e3;subst e1;subst e3;clear e2;have pV:W1.cell? (an b o)=some (io x):=(by have:=hr.2 0 (io x) (by rw[Qt,Hb0.o];rfl);exact zdO);have J3:=hr.1;clear hr;have⟨W2,cE⟩:=eX (W1.alloc (.cells #[el b o 123 c1] 95));rw[<-cE];have B2:Af (ci W0 W2):=cE▸(Pd B1.o (aF W1 _));have WA:W2.cell? W1=some (el b o 123 c1):=(by rw[cE];exact(ar W1 [_] _).cell0);have jb:W2.cell? (an b o)=some (io x):=(by rw[cE,(aF W1 _).cell (p:=an b o) J3];exact pV);have S1:=aa (R1.o.on B2.o);have S2:=aa (R2.o.on B2.o);have y1:=S1.o.cell0;have y2:=S2.o.cell0;have f1:=S1.o.free 0;have f2:=S2.o.free 0;clear cE J3 pV SR;go_wp2_with(go_at_call 126;refine PP (HR.o _) ?_);obtain⟨r1,r2⟩:=zeo (u:= am none 0 0) (v:= ac 50) S1.o S2.o (XP (XL _));refine Qar (lQ rfl rfl rfl (oE r1) (lT r2)) rfl ?_;exact oN.o _ B2.o
  .have cH:(k' !=k)=true:=(by rw[bne,Xc hkk];rfl);clear h hk aY hm hO h1 h2 jr hd fg bO HR;go_in;go_upto_region 2 with(go_at_call 130;refine HO.o.mono ?_;rintro e W1 ⟨A1,c1,rfl,o1,s1,b1⟩;have B1:=aa b1;clear o1 s1 b1);have⟨W2,cE⟩:=eX (W1.alloc (.cells #[am A1 123 c1] 95));rw[<-cE];have B2:Af (ci W0 W2):=cE▸(Pd B1.o (aF W1 _));have S1:=aa (R1.o.on B2.o);have S2:=aa (R2.o.on B2.o);have y1:=S1.o.cell0;have y2:=S2.o.cell0;have f1:=S1.o.free 0;have f2:=S2.o.free 0;clear cE SR;go_wp2;obtain⟨r1,r2⟩:=zeo (u:= am none 0 0) (v:= ac 50) S1.o S2.o (XP (XL _));refine Qar (lQ rfl rfl rfl (oE r1) (lT r2)) rfl ?_;exact oN.o _ B2.o
variable{k:Nat}{xs:Ox}{W:Wo}
def fB{w:Wo}{b b' :Nat}{size:Nat}{v:Va}(h:w.ownsRow b e size v k xs)(hb:b'<=b):w.ownsRow b' e size v k xs:=by
 obtain⟨h1,h2⟩:=h;refine⟨h1,?_⟩;obtain h2|⟨g,cap,cur,a,b,c⟩:=h2
 .exact .inl h2
 .exact .inr ⟨g,cap,cur,a,Mx,c⟩
def DF{W' :Wo}(h:ci W W'):KeepsOthers W W' :=KeepsOthers.of_grownBy (ga h none) Sv
def fM{n:Nat}(W:Wo)(l:Nat)(o:Obj)(hl:n<=l):Below n W (W.putObj l o):=⟨rfl,rfl,rfl,by rw[World.putObj_size];exact go,λk hk=>World.putObj_heap_other Mx⟩
def Dd{w1:Wo}{n0 B Bx:Nat}{t:Fy}{u v' :Va}{m:Nat}{ys:Ox}{tmp:Obj}(JG:t≠e)(hb:Boxed W B t u)(bN:W.ownsRow n0 e 1 u k xs)(ng :w1.ownsRow n0 e 1 v' m ys)
  (hg:(W.alloc tmp).grownBy w1 u.ownBlock) (jU:n0<=W) (hB:n0<=B) (hx:Bx≠B) (hxl:Bx<W) (hxu:u.ownBlock≠some Bx):
  Boxed w1 B t u/\Boxed (w1.setCell (ol B) v') B t v'/\(w1.setCell (ol B) v').ownsRow n0 e 1 v' m ys/\KeepsOthers W (w1.setCell (ol B) v')/\fo n0 Bx W (w1.setCell (ol B) v')/\Below n0 W (w1.setCell (ol B) v'):=by
 obtain⟨a1,a2,a3,a4,a5⟩:=Boxed.appended (n₀:=n0) hb JG bN jU hB ng hg;refine⟨a1,a2,ng.kept (grownBy_setCell' w1 B v') (.inr (a1.not_row JG ng).symm),a4,⟨a4.size,λj hj=> ?_⟩,a5⟩;obtain hj|rfl:=hj
 .exact a5.block j hj
 .rw[Xl _ _ _ _ hx];exact(hg.block _ BY hxu.symm).trans (Qej W tmp _ hxl)
def Ro(body:Fr):(kx body).map Prod.snd=mq body:=by simp[kx,mq]
def CI:(prog.info? 30).map (λi=>(i.zero,i.size,i.bytes))=some (some (pK 0),1,2):=KJ
def acj(w:Wo)(k:Int)(hk:k=4\/k=5)(v:Va)(p:Fr)(h:Bs w w v p)(body:Fr)(h1:dy p=some (k,body))(Ny:body.headD 0<=61)(hz:((mq body).drop (body.headD 0).toNat).all (·==0)=true):
  Calls prog 65 #[io k,v] w λe w' =>∃u,e= .returned (.tuple #[u,ac 0])/\aB w' w 30 .u16 u ((mq body).take (body.headD 0).toNat)/\ci w w' :=by
 obtain⟨A,c,rfl,-,-⟩:=h.1.form;have⟨W0,aY⟩:=eX ((w.alloc (.cells #[()] 64)).alloc (.cells #[ac 0] 36));have R1:Af (aq W0 w 64 [()]):=by show _=_;rw[aY];exact dx w _ _
 have R2:Af (aq W0 (w.heap.size+1) 36 [ac 0]):=zbJ;have B0:Af (ci w W0):=zbx;have lz:Af (W0.heap.size=w.heap.size+2):=by show _=_;rw[aY];simp
 have HR:=aa (λW=>rN W k hk);have jr:Bs W0 W0 (am A p.length c) p:=⟨(h.1.below B0.o).more B0.o.size,h.2⟩;have HO:=aa (nH jr h1);have⟨m,hm⟩:=eX p.length;rw[<-hm] at HO|-;have SR:=aY.symm;obtain⟨fg,-,bO⟩:=jO h1 h.2;have gd:body[0]? =some (body.headD 0):=by
  cases body with
  |nil=>simp at fg
  |cons x r=>rfl
 have eD:=(bO _ (Qi gd)).1;obtain⟨x,hx⟩:∃x:Nat,x=(body.headD 0).toNat:=⟨_,rfl⟩;have hxi:body.headD 0=(x:Int):=Mx;rw[<-hx] at hz|-;rw[hxi] at gd Ny;have Ta:=kH fg gd (by omega:x<=61) hz;have avT:¬(61:Int)<x:=Mx;clear h hk aY hm h1 jr fg bO gd eD hx hxi hz Ny;refine(Qdb (n:=3)).1 ?_;refine callsIn_of_wp_marks func65 rfl trivial ?_ rfl;simp only[ntmps65,QW,QF,Xq,Nat.reduceAdd,Nat.reduceSub,Xv,Xw,Xx,Xy,QZ,Qaj];refine Qhl.2 ?_;go_upto_region 2 with(go_at_call 130;refine HO.o.mono ?_;rintro e W1 ⟨A1,c1,rfl,o1,s1,b1⟩;have S3:=aa s1;have B1:=aa b1;clear o1 s1 b1);obtain⟨b,o,c',hv,-,-,hr⟩:=S3.p1.row (by have:=Ta.o;omega);injection hv with e1 e2 e3;subst e1;subst e3;clear e2;have pV:W1.cell? (an b o)=some (io x):=by have:=hr.2 0 (io x) (by rw[Qt,Ta.p2];rfl);exact zdO
 have J3:=hr.1;clear hr;have⟨X7,hX7⟩:=eX W1.heap.size;have⟨W2,cE⟩:=eX (W1.alloc (.cells #[el b o 123 c1] 95));rw[<-cE,<-hX7];have wV:ci W1 W2:=cE▸(aF _ _);have B2:=aa (Pd B1.o wV);have K7:Af (aq W2 X7 95 [el b o 123 c1]):=by show _=_;rw[cE,hX7];exact ar W1 [_] _
 have Kb:Af (W2.cell? (an b o)=some (io x)/\b<W2/\Bs W2 W2 (el b o 123 c1) body):=
  ⟨by rw[wV.cell (p:=an b o) J3];exact pV,Qn J3 wV.size,⟨(S3.p1.below wV).more wV.size,S3.q1⟩⟩
 have S1:=aa (R1.o.on B2.o);have S2:=aa (R2.o.on B2.o);clear cE J3 pV SR hX7 wV;obtain⟨i0,hi,oI,mM,xw⟩:=Qdq CI;obtain⟨W3,yX,o3,g3⟩:=run_make_own (P:=prog) W2 W2 64 30 i0 (pK 0) 1 underlying64 hi oI mM .i64 .u8 x (by rw[xw];have:=Ta.p3;omega) (by have:=Ta.p3;unfold maxLen;omega) go;have O3:=aa o3;have B3:Af (ci W2 W3):=⟨g3.os,g3.tape,g3.output,g3.size,λj hj=>g3.block j hj Sv⟩;have q1:=K7.o.cell0;have q2:=Kb.p1;clear o3 g3;go_upto_region 5 with(go_at_call 126;refine PP (HR.o _) ?_);have⟨X9,hX9⟩:=eX W3.heap.size;obtain⟨W4,j7,-,abg⟩:=nW W3 [el W2 0 0 x] 64;have B4:=aa (Pd B3.o abg);have K9:Af (Boxed W4 X9 64 (el W2 0 0 x)):=by show Boxed _ _ _ _;rw[j7,hX9];exact Boxed.new W3 _ _
 have O4:=aa (aS O3.o abg);have H9:=dK (by rw[hX9];exact B3.o.size:W2.heap.size<=X9) K9.o.lt;rw[<-j7,<-hX9];clear yX j7 hX9 abg O3 B3 q1 q2;have q1:=(K7.o.aQ (B4.o.block X7 K7.o.lt)).cell0;have⟨Bx,j8⟩:=eX W4.heap.size;have⟨W5,j6⟩:=eX (W4.alloc (.cells #[el b o 123 c1] 95));have HN:=aa (Dv W4 (some (an b o)) 123 c1);rw[<-j6,<-j8] at HN;have E4:ci W4 W5:=by rw[j6];exact aF _ _
 have B5:=aa (Pd B4.o E4);have K9' :=aa ((E4.block _ H9.q1).trans K9.o);have O5:=aa (aS O4.o E4);have KB:Af (Boxed W5 Bx 95 (el b o 123 c1)):=by show Boxed _ _ _ _;rw[j6,j8];exact Boxed.new W4 _ _
 have HX:=Ba (by rw[j8];exact H9.q1:X9<Bx) KB.o.lt K7.o.lt H9.p1 (by have h1:=B2.o.size;have h2:=lz.o;omega:w.heap.size+1<W2.heap.size);clear j6 j8 E4 K9 O4 H9;go_wp2_with(go_at_call 131;refine HN.o.mono ?_;rintro e W6 ⟨rfl,rfl⟩);clear q1 HN;refine(Qhl (n:=3)).1 ?_;refine sO (P:=prog) rfl Fd (gf:=192) (lb:= #[li Bx]) rfl trivial (enters_of func192 KJ rfl) (λy:Int×Int=> #[ac y.1,pK y.2]) (λ_=>rfl)
  W2 Bx B5.o.size HX.p2 (kx body)
  (λpre W=>(∃u,Boxed W X9 64 u/\aB W W2 30 .u16 u ((pre.take x).map Prod.snd))/\ci W2 W/\Boxed W Bx 95 (el b o 123 c1))
  ?h0 ?hIr ?hit (λy=>{tmps:= #[io k,am A m c,undef,undef,li w,li (w.heap.size+1),io k,li X7,ac 0,li X9,ac y.1,pK y.2,.tuple #[io k,el b o 123 c1,ac 0],am A m c,.tuple #[io k,el b o 123 c1,ac 0],io k,el b o 123 c1,ac 0,ac 0,.bool false,.bool false,io k,io k,.bool false,.bool false,.bool false,io k,.bool true,.bool false,.bool false,.bool false,el b o 123 c1,ro b o,io x,.bool (decide (61<(x:Int))),.bool (decide (61<(x:Int))),el b o 123 c1,ro b o,io x,el W2 0 0 x,el b o 123 c1,.func (.func 192) #[] #[li Bx],ac y.1,pK y.2,undef,undef,undef,undef,undef,undef,undef,undef,undef,undef,undef,undef,undef,undef,undef],defers:=[]}) ?assign ?body ?done
 case h0=>intro W hW;exact⟨⟨_,(hW.block _ zap).trans K9'.o,by have h1:=aS O5.o hW;simpa[aB] using h1⟩,Pd B5.o hW,(hW.block _ HX.p2).trans KB.o⟩
 case hIr=>rintro pre W l ob Y8 ⟨⟨u,h1,h2⟩,h3,h4⟩ hl AS Ec;refine⟨⟨u,(World.putObj_heap_other zap).trans h1,ownsRow_putObj h2 _ AS Ec⟩,h3.trans (fM W l Y8 (by have:=B5.o.size;omega)),(World.putObj_heap_other zap).trans h4⟩
 case hit=>intro l J W hW hY Iu;exact Dw 2 Fd l W2 Bx (some (an b o)) c1 body Ta.p1 J hY W (Qh B5.o.size hW.size) (Boxed.cell ((hW.block _ HX.p2).trans KB.o)) ⟨(Kb.p3.below (Pd B5.o hW)),Kb.q3⟩ Iu
 case assign=>
  intro l y W K hK;gi_wp2;exact hK
 case body=>
  rintro l j hj W ⟨⟨u,h1,h2⟩,h3,h4⟩ cz;have tH:=aa (XJ hj);have agE:j<61:=by rw[jP] at hj;exact hj
  have iO:=Cu body j hj;have hr:=cW Kb.q3 (1+2*j) 2;have⟨z,hz⟩:=eX (cK body (1+2*j) 2);rw[<-hz] at iO hr;rw[iO] at tH|-;have H1:=aa h1;have H2:=aa h2;have q7:=(K7.o.aQ (h3.block X7 K7.o.lt)).cell0;have qb:=(h3.cell (p:=an b o) Kb.p2).trans Kb.p1;have gd:(0:Int)<=x:=Mx;have hxw:IntKind.i64.wrap (x:Int)=x:=by have:=Ta.p3;rw[XN];omega
  clear h1 h2 hj iO;change Af _ at h3 h4 cz agE hz hr;simp only;by_cases aJ:j<x
  .have anb:(j:Int)<x:=(by omega);have aga:(((kx body).take j).take x)=(kx body).take j:=Qj (by rw[Qu,jP];omega);have af9:(((kx body).take (j+1)).take x)=(kx body).take j++[((j:Int),z)]:=(by rw[tH.o];exact Qj (by rw[Qo,Qu,jP,ZA];omega));have⟨xs,hxs⟩:=eX (((kx body).take j).map Prod.snd);have hxl:xs.length=j:=(by rw[hxs,Qq,Qu,jP];have:=agE.o;omega);have O2:Af (W.ownsRow W2 30 1 u xs.length (xs.map (.int .u16))):=(by have h2:=H2.o;rw[aga,<-hxs] at h2;exact h2);have Bv:Af ((((kx body).take (j+1)).take x).map Prod.snd=xs++[z]):=(by show _=_;rw[af9,QL,<-hxs];rfl);obtain⟨Au,nu,cu,hu⟩:=aB.bu (show aB W W2 30 .u16 u xs from O2.o);have oN:=aa (λ(v' :Va) (w1:Wo) (a:w1.ownsRow W2 30 1 v' (xs.length+1) (xs.map (.int .u16)++[pK z])) (g:(W.alloc (.cells #[pK z] 30)).grownBy w1 u.ownBlock)=>Dd (Bx:=Bx) Fd H1.o O2.o a g (Qh B5.o.size cz.o) HX.p4 zap (by have:=HX.p2;have:=cz.o;omega) (λe=>by have h1:=Boxed.not_row (t:=95) (e:=30) h4.o Fd O2.o;exact h1 e.symm));have q9:=H1.o.cell;have qf:=H1.o.frozen;have Hxl:=aa hxl;subst hu;clear aga af9 hxs hxl;clear aJ;gi_wp2_with (gi_at_builtin;refine wpListIn_append_own _ rfl _ _ 64 rfl W2 30 i0 (pK 0) 1 2 underlying64 hi oI mM xw rfl Fd _ _ _ rfl (aS O2.o (aF _ _)) (ol W) 1 1 [pK z] rfl rfl (cell_one_new _ _ _) (by simp[Value.oneCell']) (by have:=Hxl.o;have:=agE.o;unfold maxLen;omega) (by have:=Hxl.o;have:=agE.o;omega) (by have:=B5.o.size;have:=cz.o;simp;omega) ?_;intro v' w1 ng BJ _;obtain⟨g',rr,rfl⟩:=ownsRow_succ ng;have F:=aa (oN.o _ _ ng BJ);have iI:=F.p1.cell;have wB:=F.p1.frozen;clear ng BJ);obtain⟨f1,f2,f3,f4,f5,f6⟩:=F.o;refine⟨f4,f5,⟨_,f2,?_⟩,h3.o.trans f6,?_⟩
   .rw[<-Qcn,<-Qcn,Bv.o];rw[aB,Qo,QL];exact f3
   .exact(f5.block _ (.inr rfl)).trans h4.o
  .have anb:¬(j:Int)<x:=(by omega);have am1 :z=0:=(by have h1:=Ta.q3;rw[XT] at h1;have h2:=h1 z (by rw[hz.o];refine List.mem_iff_getElem?.2 ⟨j - x,?_⟩;rw[Zb,show x+(j - x)=j by omega];rw[mq,Qt,Qam agE.o];rfl);simpa using h2);subst am1;have bj:=aa aJ;clear aJ;gi_wp2;refine⟨DF pi,⟨go,λ_ _=>rfl⟩,⟨_,H1.o,?_⟩,h3.o,h4.o⟩;have h2:=H2.o;rw[<-Qcn,<-Qcn,tH.o,Qde (by rw[Qu,jP];have:=bj.o;have:=agE.o;omega)];exact h2
 case done=>
  rintro D W hD ⟨⟨u,h1,h2⟩,h3,h4⟩ hK;have T1:=aa (S1.o.on h3);have T2:=aa (S2.o.on h3);have H2:Af (aB W W2 30 .u16 u ((mq body).take x)):=by show aB _ _ _ _ _ _;rw[Qcn,Ro] at h2;exact h2
  have y1:=T1.o.cell0;have y2:=T2.o.cell0;have f1:=T1.o.free 0;have f2:=T2.o.free 0;have q9:=h1.cell;obtain⟨Au,nu,cu,hu⟩:=H2.o.bu;subst hu;have H3:=aa h3;clear h1 h2 h3 h4;change Af _ at hD hK;go_wp2;have hDn:Af (D≠w/\D≠w+1/\w<=D):=by have h1:=HX.o;have h2:=hD.o;have h3:=B5.o.size;exact⟨Mx,Mx,Mx⟩
  have B9:=aa (Pd B0.o (Pd B2.o H3.o));obtain⟨r1,r2⟩:=zeo (u:= am Au nu cu) (v:= ac 0) T1.o T2.o (XP (XL _));have hK2:(((W.setCell (ol w) (am Au nu cu)).setCell (ol (w.heap.size+1)) (ac 0)).heap[D]? =some (.deferred (some []))):=by rw[Xl _ _ _ _ hDn.p2,Xl _ _ _ _ hDn.p1];exact hK.o
  have B8:ci w ((W.setCell (ol w) (am Au nu cu)).setCell (ol (w.heap.size+1)) (ac 0)):=(B9.o.setCell go _).setCell (Q0 _) _;have O8:aB ((W.setCell (ol w) (am Au nu cu)).setCell (ol (w.heap.size+1)) (ac 0)) W2 30 .u16 (am Au nu cu) ((mq body).take x):=by
   have bT:∀j,(Value.slice Au nu cu).ownBlock=some j->w+1<j:=λj e=>(by have h1:=(Xr H2.o j e).1;have h2:=HX.o;omega);refine Qac (Qac H2.o (grownBy_setCell' _ _ _) (.inr λe=> ?_)) (grownBy_setCell' _ _ _) (.inr λe=> ?_)
   .have:=bT _ e;omega
   .have:=bT _ e;omega
  refine⟨Sv,.inl ⟨_,_,rfl,run_takeDeferred hK2,?_⟩⟩;refine⟨_,lQ rfl rfl rfl (oE (x:= am Au nu cu) ?_) (lT (x:= ac 0) ?_),_,rfl,?_,?_⟩
  .exact(Qau (World.putObj_heap_other (Xm hDn.p1))).trans r1
  .exact(Qau (World.putObj_heap_other (Xm hDn.p2))).trans r2
  .exact fB (ownsRow_putObj O8 _ hK2 rfl) zap
  .exact B8.trans (fM _ D _ hDn.q2)
def Pz(k:Int)(p:Fr):Prop:=∀body,dy p=some (k,body)->body.headD 0<=61->((mq body).drop (body.headD 0).toNat).all (·==0)=true
def Js(w:Wo)(k:Int)(hk:k=4\/k=5)(v:Va)(p:Fr)(h:Bs w w v p)(ht:Pz k p):
  Calls prog 65 #[io k,v] w (abH w k p):=by
 cases ho:dy p with
 |none=>exact Jr w k hk v p h (.inl ho)
 |some q=>
  obtain⟨k',body⟩:=q;by_cases h1:k'≠k\/61<body.headD 0
  .exact Jr w k hk v p h (.inr ⟨k',body,ho,h1⟩)
  .have ZT :=Qir λe=>h1 (.inl e);have Ny:body.headD 0<=61:=Qir λe=>h1 (.inr Mx);subst ZT;have hz:=ht body ho Ny;refine(acj w k' hk v p h body ho Ny hz).mono ?_;rintro e w' ⟨u,rfl,h2,h3⟩;refine⟨h3,.inr ⟨_,u,?_,rfl,h2⟩⟩;unfold pB;rw[ho];simp only;rw[Xo ⟨trivial,hk,Ny,hz⟩]
def lj{P:ST}{fn:Func}{t:Fy}{p:Tmp}{a:Addr}{tmps:Zvv}(h:fn.results= #[.cell p t])(hp:tmps.getD p undef= .pointer (some a))(hl:(loadVar t a).run P w= .ok x w):
  (results fn tmps).run P w= .ok x w:=by
 exact zeM
def Rz{b:Nat}(h:w.cell? b=some x):(loadVar 3 (ol b)).run prog w= .ok x w:=by simp[go_sem,h]
def Mq(w:Wo):Calls prog 184 #[()] w (iF (.func (.func 218) #[] #[w]) λw' =>w' =w.alloc (.cells #[()] 108)):=by go_in;go_wp2;exact vl
def Sp(n:Nat)(l Bx:Nat)(J:List Empty->Wo->Prop)(W:Wo)(aH:W.cell? Bx=some ())(h0:J [] W):
  CallsIn Fence.wide n prog 218 #[.func (.yield l) #[] #[],Bx] W λe W' =>(∃v,e= .returned v)/\J [] W' :=by
 refine Qfc func218 rfl trivial ?_ rfl;simp only[ntmps218,QW,QF,Xq,Nat.reduceAdd,Nat.reduceSub,Xv,Xw,Xx,Xy,QZ,Qaj];gi_wp2;gi_loopw [3] (λi wr=>i= ac (-1)/\Af (J [] wr)) (λi _=>0)
 .exact⟨rfl,h0⟩
 .obtain⟨rfl,hJ⟩:=hrel;clear aH h0;gi_wp2;go_end0;exact⟨⟨_,rfl⟩,hJ.o⟩
def RC(w:Wo)(d:Nat)(at_:Int)(h:w.cell? (an d 1)=some ())(hd:d<w):
  Calls prog 116 #[ro d 1,ac at_] w (iF (ac (-1)) λw' =>ci w w') :=by
 have⟨W0,aY⟩:=eX ((w.alloc (.cells #[ac at_] 3)).alloc (.cells #[ac 0] 3));have R1:Af (aq W0 (w.heap.size+1) 3 [ac 0]):=zbJ;have B0:Af (ci w W0):=zbx;have lz:Af (W0.heap.size=w.heap.size+2):=by show _=_;rw[aY];simp
 have x1:=(B0.o.cell (p:=an d 1) hd).trans h;have⟨W1,aW⟩:=eX (W0.alloc (.cells #[()] 108));have⟨Bx,j8⟩:=eX W0.heap.size;have uo:=aa (Mq W0);rw[<-aW,<-j8] at uo;have B1:Af (ci W0 W1):=aW▸(aF _ _);have KB:Af (Boxed W1 Bx 108 ()):=by show Boxed _ _ _ _;rw[aW,j8];exact Boxed.new W0 _ _
 have HX:=dK (by rw[j8];have:=lz.o;omega:w+1<Bx) KB.o.lt;have HW:=aa aY.symm;clear aY aW j8 h hd;refine(Qdb (n:=3)).1 ?_;refine callsIn_of_wp_marks func116 rfl trivial ?_ rfl;simp only[ntmps116,QW,QF,Xq,Nat.reduceAdd,Nat.reduceSub,Xv,Xw,Xx,Xy,QZ,Qaj];refine Qhl.2 ?_;go_upto_region 1 with fail;rw[HW.o];go_wp2_with(go_at_call 184;refine uo.o.mono ?_;rintro e W6 ⟨rfl,rfl⟩);clear x1;refine(Qhl (n:=3)).1 ?_;refine sO (α:=Empty) (P:=prog) rfl Fd (gf:=218) (lb:= #[Bx]) rfl trivial (enters_of func218 KJ rfl) (λy=>nomatch y) (λy=>nomatch y)
  W0 Bx B1.o.size HX.q1 []
  (λ_ W=>ci W0 W) ?h0 ?hIr ?hit (λy=>nomatch y) ?assign ?body ?done
 case h0=>exact λW hW=>Pd B1.o hW
 case hIr=>exact λpre A l o o' h hl AS Ec=>h.trans (fM A l o' (Qh B1.o.size hl))
 case hit=>intro l J W hW hY Iu;exact Sp 2 l Bx J W (Boxed.cell ((hW.block _ HX.q1).trans KB.o)) Iu
 case assign=>exact λl y=>nomatch y
 case body=>intro l k hk;simp at hk
 case done=>
  rintro D W hD hB hK;have R2:=aa (R1.o.on hB);have y0:=R2.o.cell0;have f0:=R2.o.free 0;change Af _ at hB hD hK;go_wp2;have R3:=Fj R2.o (ac (-1));have bT:D≠w+1:=by have:=HX.o;have:=hD.o;omega
  have hK2:((W.setCell (ol (w.heap.size+1)) (ac (-1))).heap[D]? =some (.deferred (some []))):=by rw[Xl _ _ _ _ bT];exact hK.o
  refine⟨Sv,.inl ⟨_,_,rfl,run_takeDeferred hK2,?_⟩⟩;refine⟨_,lj rfl rfl (Rz (x:= ac (-1)) ?_),rfl,?_⟩
  .exact(Qau (World.putObj_heap_other (Xm bT))).trans R3.cell0
  .exact((Pd B0.o hB.o).setCell (Q0 _) _).trans (fM _ D _ (by have:=HX.o;have:=hD.o;omega))
def flat_get:∀(bl:List (List Int)) (i j:Nat) (hi:i<bl.length) (_:∀b∈bl,b.length=128),j<128->bl.flatten[i*128+j]? =bl[i][j]?
 |[],i,j,hi,_,_=>by simp at hi
 |b::r,0,j,_,hs,hj=>by
  rw[Qbf,Xz,QR,QN (by rw[hs b Sv];exact hj)];rfl
 |b::r,i+1,j,hi,hs,hj=>by have hb:=hs b Sv;rw[Qbf,QM zbU,hb];rw[show(i+1)*128+j - 128=i*128+j by omega];rw[flat_get r i j zal (λx hx=>hs x zdx) hj];rfl
def cF.on{w' :Wo}{d pl:Nat}{bl:List (List Int)}(h:cF w d pl bl)(hb:ci w w'):cF w' d pl bl:=⟨h.own.on hb,h.eP.on hb,h.ne,h.size,h.byte,h.n0,h.n1⟩
def oA(w:Wo)(d pl:Nat)(bl:List (List Int))(h:cF w d pl bl)(i:Nat)(hi:i<bl.length):
  Calls prog 49 #[d,ac i] w λe w' =>∃g,e= .returned (.tuple #[el g 0 128 128,ac 0])/\w.heap.size<=g/\dn w' g bl[i]/\ci w w' :=by
 have⟨n,hn⟩:=eX bl.length;have H:=aa h;have Hn:=dK hn (by omega:i<n);have HM:=aa (zL w d pl n _ (hn▸h.own));have x0:w.cell? d=some (el pl 0 n n):=hn▸(h.own.j0);have HL:=aa (λ(W:Wo) (hW:ci w W)=>RC W d i ((hW.cell (p:=an d 1) h.own.lt).trans (h.own.j1)) (Qn h.own.lt hW.size));have⟨bs,iV⟩:=eX (bl[i]);have Hb:Af (bs.length=128/\(∀x∈bs,aI x)/\∀j,j<128->w.cell? (an pl (i*128+j))=(bs.map (Value.int .u8))[j]?):=by refine⟨by rw[iV];exact h.size _ (QI hi),by rw[iV];exact h.byte _ (QI hi),λj hj=> ?_⟩;have hg:=flat_get bl i j hi h.size hj;have hl:=h.size _ (QI hi);replace hg:=hg.trans (Qf (show j<bl[i].length by omega));rw[h.eP.cell (u:= io (bl[i][j]' Mx)) (by rw[Qt,hg];rfl)];rw[iV,Qt,Qf Mx];rfl
 have ph:(i:Int)<n:=Mx;have ml:(0:Int)<=i:=Mx;have ang:¬(n:Int)<=i:=Mx;rw[<-iV];clear h hn hi iV;have⟨g,hg⟩:=eX w.heap.size;have⟨W1,aW⟩:=eX (qr w (replicate 128 (io 0)).toArray 5);have yX:(Instr.makeSlice 95 (ac 128) (ac 128)).run prog w= .ok (el g 0 128 128) W1:=zaz;have B1:Af (ci w W1):=aW▸(aF _ _);have P1:Af (aq W1 g 5 (replicate 128 (io 0))):=by show aq _ _ _ _;rw[aW,hg];exact ar _ _ _
 have G:=aa hg;have y0:=(B1.o.cell (p:=ol d) H.o.own.lt).trans x0;clear aW hg;go_in;go_upto_region 8 with(first
  |(go_at_call 111;refine PP HM.o ?_)
  |(go_at_call 116;refine Pe (HL.o W1 B1.o) λW3 B3=> ?_))
 have y0:=(Pd B1.o B3.o).cell (p:=ol d) H.o.own.lt;rw[x0] at y0;have P3:=aa (P1.o.on B3.o);have B13:=aa (Pd B1.o B3.o);have⟨cs,iH⟩:=eX (bs.map (Value.int .u8));have WS:=aa iH;have tk:Af (cs.length=128):=by show _=_;rw[iH,Qq];exact Hb.p1
 have uE:Af (∀j u,cs[j]? =some u->W3.cell? (((an pl (i*128)):Addr).add j)=some u):=λj u hj=>by
  have hj1:j<128:=by have:=(Ql.1 hj).1;rw[tk.o] at this;exact this
  rw[dP,B13.o.cell (p:=an pl (i*128+j)) H.o.eP.lt,Hb.q2 j hj1,<-iH];exact hj
 clear iH x0 yX;go_wp2_with(refine wpList_copy_splice rfl (.tmp 45) (.tmp 53) 95 95 rfl 5 underlying95 zes _ _ _ _ _ _ rfl rfl g 0 (replicate 128 (io 0)) 5 P3.o cs ?_ ?_ ?_ ?_ w w B13.o (by rw[G.o];exact go) ?_;(·have:=tk.o;simp only[Qey];split<;>omega);(·intro hp;exact⟨rfl,_,rfl,uE.o⟩);(·have:=tk.o;rw[QK];omega);(·intro u hu;rw[WS.o] at hu;exact dW .u8 bs u hu);(intro W4 og sm;have B4:=aa sm;clear sm));go_ret2;refine⟨g,rfl,by rw[G.o];exact go,?_,B4.o⟩;have h1:=og.out;have e:splice (replicate 128 (io 0)) 0 cs=bs.map (.int .u8):=by rw[splice,WS.o,Zq,QZ,Zu (by rw[Qq,QK,Hb.p1];omega),Zi]
 rw[e] at h1;exact aq.JZ h1
variable{F:Fence}{n:Nat}{P:ST}
section
def KN{α:Type}{g:Operand}{ps:Array Tmp}{assign body:Code}{Q:Mp}{a:Act}{w:Wo}(ZI:F.round=none)(h1:1<=n){gf:Nat}{lb:Zvv}
  (hg:a.eval g= .func (.func gf) #[] lb) (hFg:F.fn gf) (eg:∀args w,(callFunc gf args).run P w= .ok (.enter gf args) w) (lC:α->Array Va) (fc:∀x,(lC x).size=ps.size)
  (n0 Bx:Nat) (jU:n0<=w) (j8:Bx<w) (Ok:List α->α->Prop) (BA:List α->Prop) (I:List α->Wo->Prop) (h0:∀W,ci w W->I [] W)
  (hIr:∀pre A l o o',I pre A->w.heap.size<=l->A.heap[l]? =some o->o.isCells=false->I pre (A.putObj l o'))
  (hIk:∀pre A C (r:Option Nat),I pre A->A.grownBy C r->(∀j o,r=some j->A.heap[j]? =some o->o.isCells=false/\w<=j)->I pre C)
  (hit:∀(l:Nat) (J:List α->Wo->Prop) (W:Wo),ci w W->
   (∀pre A C (r:Option Nat),J pre A->A.grownBy C r->(∀j o,r=some j->A.heap[j]? =some o->o.isCells=false/\W<=j)->J pre C)->
   (∀pre x,Ok pre x->∀W1,J pre W1->YieldAt F (n - 1 - 1) P l (lC x) W1 λe W' =>e= .returned true/\J (pre++[x]) W'/\fo n0 Bx W1 W'/\KeepsOthers W1 W')->J [] W->
   CallsIn F (n - 1) P gf (#[.func (.yield l) #[] #[]]++lb) W λe W' =>(∃v,e= .returned v)/\∃pre,BA pre/\J pre W')
  (a₁:α->Act)
  (lJ:∀(l:Nat) (x:α) (W:Wo) (K:Act->Wo->Prop),K (a₁ x) W->
   assign.wpIn (F.inRound l) (n - 1 - 1) P (Exit.then K (λ_ _ _=>False)) {tmps:=(ps.zip (lC x)).foldl (λt (p,v)=>t.setIfInBounds p v) a.tmps,defers:=[]} W)
  (uM:∀(l:Nat) (pre:List α) (x:α),Ok pre x->∀(W:Wo),I pre W->w.heap.size<=W.heap.size->
   body.wpIn (F.inRound l) (n - 1 - 1) P (λe _ W' =>e= .normal/\KeepsOthers W W'/\fo n0 Bx W W'/\I (pre++[x]) W') (a₁ x) W)
  (kV:∀(D:Nat) (W:Wo) (pre:List α),w<=D->BA pre->I pre W->W.heap[D]? =some (.deferred (some []))->Q .normal {a with defers:={target:= .collected D,args:= #[]}::a.defers} W):
  (Code.rangeFunc g ps assign body).wpIn F n P Q a w:=by
 refine wpIn_rangeFunc λfn Nj=> ?_;rw[ZI];obtain⟨R,hR⟩:∃R:LoopState->Loop,R=λst=>{state:=st,pending:=none,fn,tmps:=a.tmps,params:=ps,assign,body,defers:=w.heap.size}:=⟨_,rfl⟩;have⟨W1,aW⟩:=eX ((w.alloc (.deferred (some []))).alloc (.loop (R .ready)));have e1:W1.heap[w.heap.size+1]? =some (.loop (R .ready)):=aW▸(cL w _ _);have e0:W1.heap[w.heap.size]? =some (.deferred (some [])):=aW▸(dx w _ _);have b1:ci w W1:=JQ;have s1:W1.heap.size=w.heap.size+2:=zdP;refine⟨w.heap.size+1,[{target:= .collected w.heap.size,args:= #[]}],W1,{target:= .fn (.func gf) lb,args:= #[.func (.yield (w.heap.size+1)) #[] #[]]},W1,gf,#[.func (.yield (w.heap.size+1)) #[] #[]]++lb,W1,?_,?_,?_,?_,λ_=>h1,?_⟩
 .exact zeq
 .simp only[resolve,hg];simp[go_sem]
 .intro f' tD;exact zet
 .exact zfM
 refine(hit (w.heap.size+1) (λpre W=>I pre W/\W.heap[w.heap.size+1]? =some (.loop (R .ready))/\W.heap[w.heap.size]? =some (.deferred (some []))) W1 b1 ?_ ?_ ⟨h0 W1 b1,e1,e0⟩).mono ?_
 .rintro pre A C r ⟨i,l,d⟩ uc ZH;have aJ:=(Qy.1 l).1;have bT:∀k,k<W1.heap.size->k<A.heap.size->some k≠r:=λk hk hkA e=>by obtain⟨o,ho⟩:∃o,A.heap[k]? =some o:=⟨_,Xu hkA⟩;have:=(ZH k o e.symm ho).2;omega
  exact⟨hIk _ _ _ r i uc (λj o hj ho=>⟨(ZH j o hj ho).1,by have:=(ZH j o hj ho).2;omega⟩),(uc.block _ aJ (bT _ Mx aJ)).trans l,(uc.block _ Mx (bT _ Mx Mx)).trans d⟩
 .rintro pre x ec W ⟨i,l,d⟩;have aJ:=(Qy.1 l).1;have hy:=run_yield (P:=P) (args:=lC x) l (hR▸(fc _));rw[hR] at hy;refine⟨fn,_,assign,body,hy,roundIn_of_wpIn Nj (lJ _ x W _ ⟨_,run_beginRound l zcm,?_⟩)⟩;have l2:(W.putObj (w.heap.size+1) (.loop {R .ready with state:= .busy})).heap[w.heap.size+1]? =some (.loop {R .ready with state:= .busy}):=World.putObj_heap_same aJ;have d2:(W.putObj (w.heap.size+1) (.loop {R .ready with state:= .busy})).heap[w.heap.size]? =some (.deferred (some [])):=(World.putObj_heap_other Mx).trans d;have b2:Below w W (W.putObj (w.heap.size+1) (.loop {R .ready with state:= .busy})):=belowK_b (w:=w) go W _ _ _ (Q0 _) l rfl rfl;refine Qit (uM _ pre x ec _ (hIr _ _ _ _ _ i (Q0 _) l rfl) zbT) ?_;rintro e a3 W3 ⟨rfl,SI,mG,ZU⟩;have l3:=SI.same _ _ l2 rfl;have d3:=SI.same _ _ d2 rfl;refine⟨_,_,run_endRound none l3,rfl,⟨hIr _ _ _ _ _ ZU (Q0 _) l3 rfl,?_,(World.putObj_heap_other Mx).trans d3⟩,((tY b2 jU j8).trans mG).trans (tY (belowK_b (w:=w) go W3 _ _ _ (Q0 _) l3 rfl rfl) jU j8),?_⟩
  .rw[World.putObj_heap_same (Qy.1 l3).1,hR];rfl
  .refine⟨?_,λk o hk ho=> ?_⟩
   .have:=SI.size;rw[World.putObj_size] at this|-;exact this
   .by_cases bQ:k=w.heap.size+1
    .subst bQ;rw[l] at hk
     cases hk;rw[World.putObj_heap_same (Qy.1 l3).1,hR];rfl
    .exact(World.putObj_heap_other bQ).trans (SI.same _ _ ((World.putObj_heap_other bQ).trans hk) ho)
 .rintro e W2 ⟨⟨v,rfl⟩,pre,hd,i,l,d⟩;have he:=run_endLoop (P:=P) l zcM;have hp:(R .ready).pending=none:=zcm;rw[hp] at he;exact⟨none,_,he,kV _ _ _ go hd (hIr _ _ _ _ _ i (Q0 _) l rfl) ((World.putObj_heap_other Mx).trans d)⟩
end
end
section
open Go.Maps (Keyed)
def al{k L:Nat}(h:k<L):L - (intOf (ac ((k:Int)+1))).toNat<L - (intOf (ac (k:Int))).toNat:=zaK
structure MK(K V:Type) where
 mt:TypeId
 kt:TypeId
 vt:TypeId
 xz:prog.underlying mt=some (.map kt vt)
 keyed:Keyed prog kt
 kv:K->Va
 kl:K->Lit
 qY:K->Prop
 ir:∀x,qY x->keyOf prog kt (kv x)=some (kl x)
 Bn:∀x y,kv x=kv y->x=y
 sB:∀v l,keyOf prog kt v=some l->∃x,qY x/\v=kv x
 vv:V->Va
 Ix:V->DataW Unit
 R:Va->Option (DataW Unit×List MemPlace)
 MZ:∀y,R (vv y)=some (Ix y,[])
 Bm:∀v z,R v=some z->∃y,v=vv y/\z=(Ix y,[])
 zo:∀y y',Ix y=Ix y'->y=y'
 zero:V
 hz:∀w,(zeroValue vt).run prog w= .ok (vv zero) w
def eM{K V:Type}[DecidableEq K](f:K->Option V)(x:K)(y:V):K->Option V:=λz=>if z=x then some y else f z
def mX{K V:Type}[DecidableEq K](f:K->Option V)(x:K):K->Option V:=λz=>if z=x then none else f z
section
variable {K V : Type}(M : MK K V)
def MK.IJ{x y:K}(hx:M.qY x)(hy:M.qY y)(h:x≠y):M.kl x≠M.kl y:=λe=>h (M.Bn _ _ (M.keyed.inj (M.ir x hx) (e▸(M.ir y hy))))
def MK.isKey{x:K}(hx:M.qY x):WideAt.IsKeyLit (M.kl x):=M.keyed.key (M.ir x hx)
structure acF(D:DataW Unit)(f:K->Option V):Prop where
 at_:∀x,M.qY x->∀z,D.atKey (M.kl x) z=((f x).map M.Ix).getD z
 has:∀x,M.qY x->Maps.has D (M.kl x)=(f x).isSome
 dom:∀x c,f x=some c->M.qY x
def MG(w:Wo)(m:Nat)(f:K->Option V)(s:Nat):Prop:=∃D,w.ownsMap prog M.kt M.R m s D/\Maps.size D=s/\acF M D f
variable {M}{w w' : Wo}{m s : Nat}{f : K -> Option V}
def OZ{b n:Nat}{D:DataW Unit}(h:w.ownsMap prog M.kt M.R b n D):w.ownsMap prog M.kt M.R b (Maps.size D) D:=by obtain⟨es,clock,hb,F,_,rfl⟩:=h;exact⟨es,clock,hb,F,by simp[Maps.size,length_sorted],rfl⟩
def MG.made(w:Wo):MG M (w.alloc (.map #[] 0)) w (λ_=>none) 0:=
 ⟨.map [],World.ownsMap_made w _ _ _,rfl,⟨λ_ _ _=>rfl,λ_ _=>rfl,λ_ _ h=>zaY⟩⟩
def MG.lt(h:MG M w m f s):m<w:=by obtain⟨D,h,_⟩:=h;exact h.lt
def MG.aQ(h:MG M w m f s)(hb:w'.heap[m]? =w.heap[m]?):MG M w' m f s:=by obtain⟨D,⟨es,clock,h0,h1⟩,h2⟩:=h;exact⟨D,⟨es,clock,hb.trans h0,h1⟩,h2⟩
def MG.kept{row:Option Nat}(h:MG M w m f s)(hg:w.grownBy w' row)(bT:some m≠row):MG M w' m f s:=h.aQ (hg.block m h.lt bT)
def MG.on(h:MG M w m f s)(hb:ci w w'):MG M w' m f s:=h.aQ (hb.block m h.lt)
def MG.aL{S:FV}(h:MG M w m f s)(hc:aG S w w')(hS:¬S m):MG M w' m f s:=h.aQ (hc.block m h.lt hS)
def MG.az(h:MG M w m f s){p:Addr}(hp:m≠p.block)(u:Va):MG M (w.setCell p u) m f s:=h.aQ (Xl _ _ _ _ hp)
def MK.val{v:Va}{ps:List MemPlace}{o:Option V}{zd:DataW Unit}(h:M.R v=some ((o.map M.Ix).getD zd,ps))(hz:zd=M.Ix M.zero):v=M.vv (o.getD M.zero):=by
 obtain⟨y,rfl,hy⟩:=M.Bm _ _ h;have e:=XF Prod.fst hy;cases o with
 |none=>rw[hz] at e;rw[M.zo _ _ e];rfl
 |some c=>rw[M.zo _ _ e];rfl
def MG.look(h:MG M w m f s){x:K}(hx:M.qY x):(Instr.lookup M.mt (.map (some m)) (M.kv x) true).run prog w= .ok (.tuple #[M.vv ((f x).getD M.zero),.bool (f x).isSome]) w:=by obtain⟨D,h1,h2,h3⟩:=h;obtain⟨v,ps,hr,hv⟩:=h1.look_ok M.keyed M.xz (M.hz w) (M.MZ M.zero) (M.ir x hx);rw[h3.at_ x hx] at hv;rw[h3.has x hx] at hr;rw[hr,M.val hv rfl]
def MG.at(h:MG M w m f s){x:K}(hx:M.qY x):(Instr.lookup M.mt (.map (some m)) (M.kv x) false).run prog w= .ok (M.vv ((f x).getD M.zero)) w:=by obtain⟨D,h1,h2,h3⟩:=h;obtain⟨v,ps,hr,hv⟩:=h1.lookup M.keyed M.xz (M.hz w) (M.MZ M.zero) (M.ir x hx);rw[h3.at_ x hx] at hv;rw[hr,M.val hv rfl]
def MG.store[DecidableEq K](h:MG M w m f s)(hs:s<=100000){x:K}(hx:M.qY x)(y:V):∃w',(Instr.mapUpdate M.mt (.map (some m)) (M.kv x) (M.vv y)).run prog w= .ok () w'/\MG M w' m (eM f x y) (if(f x).isSome then s else s+1)/\w.grownBy w' (some m):=by
 obtain⟨D,h1,h2,h3⟩:=h;obtain⟨w',hr,h4,h5⟩:=h1.store M.keyed M.xz Do (M.ir x hx) (M.MZ y);have cz:=Maps.size_put (k:=M.kl x) (h1.tidy M.keyed) (M.Ix y);rw[h3.has x hx,h2] at cz;refine⟨w',hr,⟨_,?_,cz,⟨λz hz zd=> ?_,λz hz=> ?_,λz c hzc=> ?_⟩⟩,h5.grown⟩
 .have:=OZ h4;rw[cz] at this;exact this
 .by_cases e:z=x
  .subst e;rw[Maps.atKey_put_same h1.isMap (M.isKey hx)];simp[eM]
  .rw[Maps.atKey_put_other (M.IJ hz hx e),h3.at_ z hz];simp[eM,e]
 .by_cases e:z=x
  .subst e;rw[Maps.has_put_same h1.isMap (M.isKey hx)];simp[eM]
  .rw[Maps.has_put_other (M.IJ hz hx e),h3.has z hz];simp[eM,e]
 .by_cases e:z=x
  .subst e;exact hx
  .simp[eM,e] at hzc;exact h3.dom z c hzc
def MG.drop[DecidableEq K](h:MG M w m f s){x:K}(hx:M.qY x)(ty:Fy):∃w',(Builtin.delete_ #[M.mt,M.kt] ty #[.map (some m),M.kv x]).run prog w= .ok (.tuple #[]) w'/\MG M w' m (mX f x) (s - if(f x).isSome then 1 else 0)/\w.grownBy w' (some m):=by
 obtain⟨D,h1,h2,h3⟩:=h;obtain⟨w',hr,h4,h5⟩:=h1.drop M.keyed M.xz (M.ir x hx) ty;have cz:=Maps.size_del (k:=M.kl x) (h1.tidy M.keyed);rw[h3.has x hx,h2] at cz;have Uz:Maps.size (D.del (M.kl x))=s - if(f x).isSome then 1 else 0:=Mx;refine⟨w',hr,⟨_,?_,Uz,⟨λz hz zd=> ?_,λz hz=> ?_,λz c hzc=> ?_⟩⟩,h5.grown⟩
 .have:=OZ h4;rw[Uz] at this;exact this
 .by_cases e:z=x
  .subst e;rw[Maps.atKey_del_same];simp[mX]
  .rw[Maps.atKey_del_other (M.IJ hz hx e),h3.at_ z hz];simp[mX,e]
 .by_cases e:z=x
  .subst e;rw[Maps.has_del_same];simp[mX]
  .rw[Maps.has_del_other (M.IJ hz hx e),h3.has z hz];simp[mX,e]
 .by_cases e:z=x
  .subst e;simp[mX] at hzc
  .simp[mX,e] at hzc;exact h3.dom z c hzc
end
section
variable {K V : Type}[DecidableEq K](M : MK K V)
variable {ops : Array Oper}{w : Wo}{Q : Exit -> Act -> Wo -> Prop}{a : Act}{rest : List Oper}{dst : Option Tmp}{om ok ov : Operand}{ty mt kt : TypeId}{pos : String}{after : Array Edge}{m s : Nat}{f : K -> Option V}
def wl_put(xz:mt=M.mt)(h:MG M w m f s)(hs:s<=100000)(x:K)(y:V)(hx:M.qY x)(hm:a.eval om= .map (some m))(hk:a.eval ok=M.kv x)(hv:a.eval ov=M.vv y)
  (hK:∀w',MG M w' m (eM f x y) (if(f x).isSome then s else s+1)->w.grownBy w' (some m)->wpList prog ops Q rest (a.put dst undef) w'):
  wpList prog ops Q (⟨dst,.mapUpdate mt om ok ov,ty,pos,after,none⟩::rest) a w:=by
 subst xz;refine Qbi rfl λK' hK' => ?_;obtain⟨w',iq,r1,r2⟩:=h.store hs hx y;unfold Oper.wp;simp[execOp,hm,hk,hv,iq,Result.andThen];exact hK' _ _ (hK w' r1 r2)
def wl_cut(xz:mt=M.mt)(hkt:kt=M.kt)(h:MG M w m f s)(x:K)(hx:M.qY x)(hm:a.eval om= .map (some m))(hk:a.eval ok=M.kv x)
  (hK:∀w',MG M w' m (mX f x) (s - if(f x).isSome then 1 else 0)->w.grownBy w' (some m)->wpList prog ops Q rest (a.put dst (.tuple #[])) w'):
  wpList prog ops Q (⟨dst,.call {callee:= .builtin .delete,args:= #[om,ok],argTypes:= #[mt,kt]},ty,pos,after,none⟩::rest) a w:=by
 subst xz hkt;refine Qbi rfl λK' hK' => ?_;obtain⟨w',iq,r1,r2⟩:=h.drop hx ty;unfold Oper.wp;simp[execOp,resolve,invoke,builtin,hm,hk,iq,Result.andThen];exact hK' _ _ (hK w' r1 r2)
end
def RI(k:IntKind)(v:Va):Option (DataW Unit×List MemPlace):=
 match v with
 | .int k' x=>if k' =k then some (.lit (.int k x),[]) else none
 |_=>none
def IU(k:IntKind)(y:Int):RI k (.int k y)=some (.lit (.int k y),[]):=by simp[RI]
def zy(k:IntKind)(v:Va)(z:DataW Unit×List MemPlace)(h:RI k v=some z):∃y,v= .int k y/\z=(.lit (.int k y),[]):=by
 unfold RI at h;split at h
 .split at h
  .rename_i x he
   subst he;cases h;exact⟨x,rfl,rfl⟩
  .cases h
 .cases h
def zz(k:IntKind)(y y' :Int)(h:(DataW.lit (.int k y):DataW Unit)= .lit (.int k y')):y=y' :=EQ
def sw(o:Option (Nat×Nat)):Va:=
 match o with
 |none=> .slice none 0 0
 |some (g,c)=> .slice (some ⟨g,0,none⟩) 128 c
def RS(v:Va):Option (DataW Unit×List MemPlace):=
 match v with
 | .slice none 0 0=>some (.agg [],[])
 | .slice (some ⟨g,0,none⟩) 128 c=>some (.agg [.lit (.int .u64 g),.lit (.int .u64 c)],[])
 |_=>none
def nt(o:Option (Nat×Nat)):DataW Unit:=
 match o with
 |none=> .agg []
 |some (g,c)=> .agg [.lit (.int .u64 g),.lit (.int .u64 c)]
def ahP(o:Option (Nat×Nat)):RS (sw o)=some (nt o,[]):=by
 cases o with
 |none=>rfl
 |some p=>rfl
def acC(v:Va)(z:DataW Unit×List MemPlace)(h:RS v=some z):∃o,v=sw o/\z=(nt o,[]):=by
 unfold RS at h;split at h
 .cases h;exact⟨none,rfl,rfl⟩
 .cases h;exact⟨some (_,_),rfl,rfl⟩
 .cases h
def acD(o o' :Option (Nat×Nat))(h:nt o=nt o'):o=o' :=by
 cases o with
 |none=>cases o' with
  |none=>rfl
  |some p=>simp[nt] at h
 |some p=>cases o' with
  |none=>simp[nt] at h
  |some q=>
   simp[nt] at h;rw[show p=q from Prod.ext Mx Mx]
end
structure aE where
 counts:List Int
 kept:List (Option Int)
 cY:Int
 waits:Int
deriving DecidableEq
namespace aE
def new(n:Nat):aE:=⟨replicate n 0,replicate n none,n,0⟩
def of(l:Fr):aE:=⟨l,replicate l.length none,(l.length:Int) - (l.countP λc=>decide (0<c)),0⟩
def len(t:aE):Nat:=t.counts.length
def get(t:aE)(b:Nat):Int:=t.counts.getD b 0
def mE(t:aE)(b:Nat):Int:=(t.kept.getD b none).getD (t.get b)
def free(t:aE)(b:Nat):Bool:=decide (b<t.len)&&(t.get b==0)&&(t.mE b==0)
def Iy(t:aE)(mE count one:Int):aE:=
 if 0<count then t else if 0<mE then{t with waits:=t.waits+one} else{t with cY:=t.cY+one}
def set(t:aE)(b:Nat)(n:Int):aE:=
 let t1:=(t.Iy (t.mE b) (t.get b) (-1)).Iy (t.mE b) n 1
 {t1 with counts:=t.counts.set b n,kept:=t.kept.set b (if n=t.mE b then none else some (t.mE b))}
def up(t:aE)(b:Nat):Int×aE:=if t.len<=b then(80,t) else if t.get b=65535 then(81,t) else(0,t.set b (t.get b+1))
def down(t:aE)(b:Nat):Int×aE:=if t.len<=b then(80,t) else if t.get b=0 then(82,t) else(0,t.set b (t.get b - 1))
def changed(t:aE):List Nat:=(range t.len).filter λb=>(t.kept.getD b none).isSome
def keep(t:aE):aE:={t with kept:=replicate t.len none,cY:=t.cY+t.waits,waits:=0}
def room(t:aE)(first:Nat):Int:=t.cY - ((range first).countP λb=>t.free b)
def find(t:aE)(first next:Nat):Option Nat:=(List.range' next (t.len - next)++List.range' first (next - first)).find? t.free
def take(t:aE)(first next:Nat):Int×Int×aE×Nat:=
 match t.find first next with
 |none=>(0,90,t,next)
 |some b=>(b,0,t.set b (t.get b+1),if b+1=t.len then first else b+1)
end aE
def kU(n:Int):Int:=aR n+aR (aR n)
def eI(t:aE)(eL:Nat):List Int:=(t.counts.drop (61*eL)).take 61
def jE(t:aE):List Int->List Int->Bool
 |_,[]=>true
 |seen,b::r=>if b=0 then jE t seen r else !(seen.contains b)&& !(t.get b.toNat==0)&&jE t (b::seen) r
def ke(t:aE)(ag au:Fr):Bool:=
 decide ((ag.length:Int)=aR t.len)&&decide ((au.length:Int)=aR (ag.length:Int))&&jE t [] (ag++au)
structure fk where
 t:aE
 next:Nat
 ag:List Int
 au:List Int
 pp:List Bool
 pd:List Bool
deriving DecidableEq
namespace fk
def fU(x:fk)(i:Nat):Bool:=
 if x.pp.getD i false then false else if x.ag.getD i 0=0 then true else x.t.changed.any λb=>decide (61*i<=b)&&decide (b<61*(i+1))
def gH(x:fk)(i:Nat):Bool:=
 if x.pd.getD i false then false else if x.au.getD i 0=0 then true else((x.pp.drop (61*i)).take 61).any id
def fst(x:fk):Option (Bool×Nat):=
 match(range x.ag.length).find? x.fU with
 |some i=>some (false,i)
 |none=>match(range x.au.length).find? x.gH with
  |some i=>some (true,i)
  |none=>none
def place(x:fk)(kind:Bool)(i:Nat):Int×fk:=
 let wG:=if kind then x.au.getD i 0 else x.ag.getD i 0
 let t1:=if wG=0 then x.t else(x.t.down wG.toNat).2
 let r:=t1.take 2 x.next
 (r.2.1,if kind then{x with t:=r.2.2.1,next:=r.2.2.2,au:=x.au.set i r.1,pd:=x.pd.set i true}
  else{x with t:=r.2.2.1,next:=r.2.2.2,ag:=x.ag.set i r.1,pp:=x.pp.set i true})
def run:Nat->fk->Int×fk
 |0,x=>(0,x)
 |f+1,x=>
  match x.fst with
  |none=>(0,x)
  |some (kind,i)=>if(x.place kind i).1=0 then run f (x.place kind i).2 else x.place kind i
end fk
def gG(l:List Bool):List Nat:=(range l.length).filter λi=>l.getD i false
def fm(t:aE)(next:Nat)(ag au:Fr):Int×fk:=
 let x:fk:=⟨t,next,ag,au,ag.map λ_=>false,au.map λ_=>false⟩
 if t.len=0 then(1,x) else if ke t ag au=false then(100,x) else if t.room 2<kU t.len then(90,x) else x.run (ag.length+au.length)
structure aX where
 bl:List (List Int)
 t:aE
 next:Nat
 ag:List Int
 au:List Int
 fresh:List (Option (List Int))
 eO:aN
 kept:aN
 slot:Nat
 broken:Bool
deriving DecidableEq
def aV:aN:=⟨0,0,replicate 8 0,replicate 8 0⟩
def qE(x:aN)(au:Fr):aN:={x with roots:=(range 2).map (λi=>au.getD i 0)++x.roots.drop 2}
def bG(l:Fr)(i:Nat):List Int:=(l.drop (61*i)).take 61
def pagedV(t:aE)(ag au:Fr)(a b:GT):List (Int×List Int):=
 (a.map λi=>(ag.getD i 0,encI 5 (eI t i)))++(b.map λi=>(au.getD i 0,encI 4 (bG ag i)))
def eS(bl:List (List Int))(ws:List (Int×List Int)):List (List Int):=ws.foldl (λbl w=>bl.set w.1.toNat w.2) bl
namespace aX
def len(s:aX):Nat:=s.t.len
def root(s:aX)(i:Nat):Int:=s.eO.roots.getD i 0
def may(s:aX):Int:=if s.broken then 111 else 0
def cM(s:aX)(i:Nat)(b:Int):Int×aX:=
 if s.broken then(111,s) else if i<2\/8<=i\/b≠0/\(b<2\/(s.len:Int)<=b) then(2,s) else(0,{s with eO:={s.eO with roots:=s.eO.roots.set i b}})
def ik(s:aX)(b:Nat):Bool:=(s.fresh.getD b none).isSome
def read(s:aX)(b:Nat):List Int:=(s.fresh.getD b none).getD (s.bl.getD b [])
def room(s:aX):Int:=max (s.t.room 2 - kU s.len) 0
def put(s:aX)(data:Fr):Int×Int×aX:=
 if s.broken then(0,111,s) else if data.length≠128 then(0,2,s) else if s.room=0 then(0,90,s)
 else
  let r:=s.t.take 2 s.next
  (r.1,r.2.1,{s with t:=r.2.2.1,next:=r.2.2.2,fresh:=s.fresh.set r.1.toNat (some data)})
def count(s:aX)(b:Nat)(up:Bool):Int×aX:=
 if s.broken then(111,s) else if b<2\/s.len<=b\/s.ag.contains (b:Int)\/s.au.contains (b:Int) then(2,s)
 else if s.t.get b=0 then(82,s)
 else
  let r:=if up then s.t.up b else s.t.down b
  (r.1,{s with t:=r.2,fresh:=if r.2.get b=0 then s.fresh.set b none else s.fresh})
def commit(s:aX):Int×aX:=
 if s.broken then(111,s) else if s.t.changed.length=0/\s.eO=s.kept then(0,s)
 else
  let r:=fm s.t s.next s.ag s.au
  if r.1≠0 then(r.1,{s with t:=r.2.t,next:=r.2.next})
  else
   let x0:=qE s.eO r.2.au
   let x:={x0 with gen:=x0.gen+1}
   let fr:=((range s.fresh.length).filter λb=>(s.fresh.getD b none).isSome).map λ(b:Nat)=>((b:Int),(s.fresh.getD b none).getD [])
   let bl:=eS (eS s.bl (fr++pagedV r.2.t r.2.ag r.2.au (gG r.2.pp) (gG r.2.pd))) [(1 - (s.slot:Int),J7 x)]
   (0,{s with bl:=bl,t:=r.2.t.keep,next:=r.2.next,ag:=r.2.ag,au:=r.2.au,fresh:=s.fresh.map λ_=>none,eO:=x,kept:=x,slot:=1 - s.slot})
end aX
section
variable{b:Nat}{t:aE}
def acG(p q:Nat->Bool)(b:Nat)(n:Nat)(bT:∀x,x≠b->p x=q x)(hb:b<n):
  ((range n).countP q:Int)=(range n).countP p - (if p b then 1 else 0)+(if q b then 1 else 0):=by
 induction n with
 |zero=>omega
 |succ n ih=>
  rw[Qbd,Qcd,Qcd];by_cases h:b<n
  .have h1:=ih h;have h2:List.countP q [n]=List.countP p [n]:=(by simp[Qai,bT n Mx]);rw[h2]
   push_cast
   omega
  .obtain rfl:b=n:=(by omega);have h1:List.countP q (range b)=List.countP p (range b):=Qeh λx hx=>(by rw[bT x (by have:=Zm.1 hx;omega)]);rw[h1]
   push_cast
   simp only[Qai,List.countP_nil];cases p b<;>cases q b<;>simp<;>omega
def mD(p:Nat->Bool)(n:Nat):(range n).countP p<=n:=by have:=Qdm (p:=p) (l:=range n);exact zdO
namespace aE
def pD(t:aE)(b:Nat):Bool:=decide (b<t.len)&&(t.get b==0)&& !(t.mE b==0)
structure Ok(t:aE):Prop where
 n0:1<=t.len
 n1:t.len<=4096
 J0:t.kept.length=t.len
 range:∀c∈t.counts,0<=c/\c<=65535
 ab4:∀c,some c∈t.kept->0<=c/\c<=65535
 cY:t.cY=(List.range t.len).countP t.free
 waits:t.waits=(List.range t.len).countP t.pD
def Fk(hb:b<t.len):t.counts[b]? =some (t.get b):=by rw[get,Qe,Qf hb];rfl
def ll(h:t.Ok)(b:Nat):0<=t.get b/\t.get b<=65535:=by
 by_cases hb:b<t.len
 .have:=Qi (Fk hb);exact h.range _ this
 .unfold get;rw[Qe,QQ (by unfold len at hb;omega)];exact⟨Fd,Fd⟩
def adY(h:t.Ok)(b:Nat):0<=t.mE b/\t.mE b<=65535:=by
 unfold mE;cases hk:t.kept.getD b none with
 |none=>exact ll h b
 |some c=>
  refine h.ab4 c ?_;rw[Qe] at hk;cases hg:t.kept[b]? with
  |none=>rw[hg] at hk;cases hk
  |some o=>rw[hg] at hk;simp at hk;subst hk;exact Qi hg
@[simp] theorem tU (b:Nat) (n:Int):(t.set b n).len=t.len:=by simp[set,len]
def VH(hb:b<t.len)(n:Int)(x:Nat):(t.set b n).get x=if x=b then n else t.get x:=by
 unfold get set;simp only;rw[Qe,Qbl];split
 .rename_i h
  subst h;rw[Xo rfl,Xo (show b<t.counts.length from hb)];rfl
 .rename_i h
  rw[Xd (λe=>h e.symm),Qe]
def ajO(h:t.Ok)(hb:b<t.len)(n:Int)(x:Nat):(t.set b n).mE x=t.mE x:=by
 have hk:b<t.kept.length:=h.J0▸hb;unfold mE;rw[VH hb n x];show(((t.kept.set b _).getD x none).getD _)=_;rw[Qe,Qbl];by_cases hx:x=b
 .subst hx;rw[Xo rfl,Xo hk,Xo rfl];simp only[Qdu];by_cases hn:n=t.mE x
  .rw[Xo hn];exact hn
  .rw[Xd hn];rfl
 .rw[Xd (λe=>hx e.symm),Xd hx,Qe]
def ad0(b:Nat)(n:Int):(t.set b n).cY=t.cY - (if 0<t.get b then 0 else if 0<t.mE b then 0 else 1)+(if 0<n then 0 else if 0<t.mE b then 0 else 1):=zfF
def adZ(b:Nat)(n:Int):(t.set b n).waits=t.waits - (if 0<t.get b then 0 else if 0<t.mE b then 1 else 0)+(if 0<n then 0 else if 0<t.mE b then 1 else 0):=zfF
def Ok.set(h:t.Ok)(hb:b<t.len){n:Int}(h0:0<=n)(h1:n<=65535):(t.set b n).Ok:=by
 have g:=ll h b;have ws:=adY h b;refine⟨by rw[tU];exact h.n0,by rw[tU];exact h.n1,by simp[aE.set,len];exact h.J0,?_,?_,?_,?_⟩
 .intro c hc;obtain h2|h2:=Zz hc
  .exact h.range c h2
  .subst h2;exact⟨h0,h1⟩
 .intro c hc;obtain h2|h2:=Zz hc
  .exact h.ab4 c h2
  .split at h2
   .cases h2
   .cases h2;exact ws
 .have hu:=acG t.free (t.set b n).free b t.len (λx hx=>by unfold free;rw[tU,VH hb,ajO h hb,Xd hx]) hb;rw[tU,hu,ad0,h.cY];have e1:t.free b=(decide (¬0<t.get b)&&decide (¬0<t.mE b)):=by rw[free,Xa hb,Qda,XD];simp;omega
  have e2:(t.set b n).free b=(decide (¬0<n)&&decide (¬0<t.mE b)):=by rw[free,tU,VH hb,ajO h hb,Xo rfl,Xa hb,Qda,XD];simp;omega
  exact zeY
 .have hu:=acG t.pD (t.set b n).pD b t.len (λx hx=>by unfold pD;rw[tU,VH hb,ajO h hb,Xd hx]) hb;rw[tU,hu,adZ,h.waits];have e1:t.pD b=(decide (¬0<t.get b)&&decide (0<t.mE b)):=by rw[pD,Xa hb,Qda,XD];simp;omega
  have e2:(t.set b n).pD b=(decide (¬0<n)&&decide (0<t.mE b)):=by rw[pD,tU,VH hb,ajO h hb,Xo rfl,Xa hb,Qda,XD];simp;omega
  exact zeY
def Ok.frees_le(h:t.Ok):0<=t.cY/\t.cY<=4096:=by have:=mD t.free t.len;have:=h.n1;rw[h.cY];omega
def Ok.waits_le(h:t.Ok):0<=t.waits/\t.waits<=4096:=by have:=mD t.pD t.len;have:=h.n1;rw[h.waits];omega
def ab0{n:Nat}(h0:1<=n)(h1:n<=4096):(aE.new n).Ok:=by
 have g:∀b,b<n->(aE.new n).get b=0:=λb hb=>by unfold get new;simp[Qe,hb]
 have k:∀b,(aE.new n).kept.getD b none=none:=λb=>by unfold new;simp only[Qe,Zr];split<;>rfl
 have ws:∀b,b<n->(aE.new n).mE b=0:=λb hb=>by rw[mE,k b,g b hb];rfl
 have e:(aE.new n).len=n:=by simp[new,len]
 refine⟨by rw[e];exact h0,by rw[e];exact h1,by simp[new,len],λc hc=> ?_,λc hc=> ?_,?_,?_⟩
 .rw[QJ hc];exact⟨Fd,Fd⟩
 .cases QJ hc
 .rw[e];have:(range n).countP (aE.new n).free=(range n).length:=List.countP_eq_length.2 λb hb=>by have hb:=Zm.1 hb;rw[free,e,g b hb,ws b hb];simp[hb]
  rw[this,Qbk];rfl
 .rw[e];have:(range n).countP (aE.new n).pD=0:=List.countP_eq_zero.2 λb hb=>by have hb:=Zm.1 hb;rw[pD,e,g b hb,ws b hb];simp
  rw[this];rfl
end aE
variable{V:Type}{a tb cb mb:Nat}{e:Fy}{cs:Ox}{w w' :Wo}
def mo{x:Int}(h: -9223372036854775808<=x/\x<=9223372036854775807):(Lit.int .i64 x).wf=true:=zel
def uj:MK Int Int where
 mt:=172
 kt:=3
 vt:=30
 xz:=underlying172
 keyed:=Qfq underlying3
 kv:= .int .i64
 kl:= .int .i64
 qY:=λx=>(Lit.int .i64 x).wf=true
 ir:=λx h=>Qeo underlying3 h
 Bn:=λx y h=>EQ
 sB:=λv l h=>by exact zei
 vv:= .int .u16
 Ix:=λy=> .lit (.int .u16 y)
 R:=RI .u16
 MZ:=IU .u16
 Bm:=zy .u16
 zo:=zz .u16
 zero:=0
 hz:=λw=>by kernel_rfl
def du{V:Type}(l:List (Option V)):Int->Option V:=λx=>if 0<=x then l.getD x.toNat none else none
def gN(l:List (Option V))(b:Nat):du l b=l.getD b none:=by simp[du]
def yy(l:List (Option V))(b:Nat)(hb:b<l.length)(y:V):eM (du l) (b:Int) y=du (l.set b (some y)):=by
 funext x;unfold eM du;by_cases h:x=b
 .subst h;rw[Xo rfl,Xo Mx,Xt,Qe,Qbc hb];rfl
 .rw[Xd h];split
  .rename_i h0
   rw[Qe,Qe,Qct Mx]
  .rfl
def yz(l:List (Option V))(b:Nat):mX (du l) (b:Int)=du (l.set b none):=by
 funext x;unfold mX du;by_cases h:x=b
 .subst h;rw[Xo rfl,Xo Mx,Xt,Qe,Qbl];simp;split<;>rfl
 .rw[Xd h];split
  .rename_i h0
   rw[Qe,Qe,Qct Mx]
  .rfl
def ko(n:Nat):(λ_=>none:Int->Option V)=du (replicate n none):=by
 funext x;unfold du;split
 .rw[Qe,Zr];split<;>rfl
 .rfl
def nS{V:Type}(l:List (Option V)):Nat:=l.countP λo=>o.isSome
def zH(y:V):∀(l:List (Option V)) (b:Nat),b<l.length->nS (l.set b (some y))=if(l.getD b none).isSome then nS l else nS l+1
 |[],_,h=>zaF
 |o::r,0,_=>by cases o<;>simp[nS]
 |o::r,b+1,h=>by have ih:=zH y r b EQ;unfold nS at ih|-;rw[Qc,Qai,Qai,ih,Qbj];split<;>omega
def zI:∀(l:List (Option V)) (b:Nat),nS (l.set b none)=nS l - if(l.getD b none).isSome then 1 else 0
 |[],b=>by simp[nS]
 |o::r,0=>by cases o<;>simp[nS]
 |o::r,b+1=>by
  have ih:=zI r b;have hle:(r.getD b none).isSome=true->1<=nS r:=λh=>by
   rw[Qe] at h
   cases hg:r[b]? with
   |none=>rw[hg] at h;simp at h
   |some o' =>
    rw[hg] at h;exact List.countP_pos_iff.2 ⟨o',Qi hg,h⟩
  unfold nS at ih hle|-;rw[Qc,Qai,Qai,ih,Qbj];split
  .rename_i h;have:=hle h;omega
  .omega
def Yq(l:List (Option V)):nS l<=l.length:=Qdm
def qN(n:Nat):nS (replicate n (none:Option V))=0:=List.countP_eq_zero.2 λo ho=>by rw[QJ ho];simp
def wQ(cv mv:Va)(fr wt:Int):List Va:=[cv,mv,.int .i64 fr,.int .i64 wt]
structure bf(w:Wo)(tb cb mb:Nat)(t:aE):Prop where
 own:aq w tb 174 (wQ (.slice (some ⟨cb,0,none⟩) t.len t.len) (.map (some mb)) t.cY t.waits)
 counts:aq w cb 30 (t.counts.map (.int .u16))
 kept:MG uj w mb (du t.kept) (nS t.kept)
 ok:t.Ok
def aq.ne{w:Wo}{e' :Fy}{ks :Ox}(h:aq w a e cs)(k:aq w b e' ks)(he:e≠e'):a≠b:=by rintro rfl;have h1:=Qgg (Eq.symm h) k;injection h1 with h2;injection h2 with h3 h4;exact he h4
def aq.bS{K:Type}[DecidableEq K]{M:MK K V}{w:Wo}{m s:Nat}{f:K->Option V}(h:aq w a e cs)(k:MG M w m f s):a≠m:=by
 rintro rfl;obtain⟨D,⟨es,clock,h0,_⟩,_⟩:=k;have h1:=Qgg (Eq.symm h) h0;injection h1 with h2
 cases h2
section
def bf.tc(h:bf w tb cb mb t):tb≠cb:=h.own.ne h.counts Fd
def bf.tm(h:bf w tb cb mb t):tb≠mb:=h.own.bS h.kept
def bf.cm(h:bf w tb cb mb t):cb≠mb:=h.counts.bS h.kept
def bf.aL{S:FV}(h:bf w tb cb mb t)(hc:aG S w w')(h1:¬S tb)(h2:¬S cb)(h3:¬S mb):bf w' tb cb mb t:=⟨h.own.aL hc h1,h.counts.aL hc h2,h.kept.aL hc h3,h.ok⟩
def bf.on(h:bf w tb cb mb t)(hb:ci w w'):bf w' tb cb mb t:=⟨h.own.on hb,h.counts.on hb,h.kept.on hb,h.ok⟩
def bf.x0(h:bf w tb cb mb t):w.cell? tb=some (el cb 0 t.len t.len):=h.own.j0
def bf.x1(h:bf w tb cb mb t):jp w tb 1 (.map (some mb)):=h.own.j1
def bf.at_(h:bf w tb cb mb t)(hb:b<t.len):jp w cb b (pK (t.get b)):=h.counts.cell (by rw[Qt,aE.Fk hb];rfl)
def bf.look(h:bf w tb cb mb t)(hb:b<t.len):(Instr.lookup 172 (.map (some mb)) (ac b) true).run prog w= .ok (.tuple #[pK ((t.kept.getD b none).getD 0),.bool (t.kept.getD b none).isSome]) w:=by have h1:=h.kept.look (x:=(b:Int)) (mo (by have:=h.ok.n1;omega));rw[gN] at h1;exact h1
end
def cn(w:Wo)(tb n:Nat)(A:GB)(c:Nat)(h:w.cell? tb=some (am A n c)):
  Calls prog 63 #[tb] w (iF (ac n) λw' =>w=w') :=by
 go_in;go_wp2;exact vl
def tW(w:Wo)(tb n:Nat)(A:GB)(c:Nat)(h:w.cell? tb=some (am A n c))(b:Int):
  Calls prog 127 #[tb,ac b] w (iF (.bool (decide (0<=b/\b<n))) λw' =>w=w') :=by
 have HB:=aa (cn w tb n A c h);by_cases h0:0<=b
 .by_cases h1:b<n
  .have e:decide (0<=b/\b<(n:Int))=true:=Xa ⟨h0,h1⟩;rw[e];go_in;go_wp2_with(go_at_call 63;refine PP HB.o ?_);exact vl
  .have e:decide (0<=b/\b<(n:Int))=false:=Xe (λh=>h1 h.2);have h2:=h1;rw[e];go_in;go_wp2_with(go_at_call 63;refine PP HB.o ?_);go_ret;exact⟨XF (λx=>Ending.returned (Value.bool x)) (Xe (Int.not_lt.2 h2)),rfl⟩
 .have e:decide (0<=b/\b<(n:Int))=false:=Xe (λh=>h0 h.1);rw[e];go_in;go_wp2;exact vl
def I5(w:Wo)(tb cb mb:Nat)(t:aE)(h:bf w tb cb mb t)(b:Nat)(hb:b<t.len):
  Calls prog 128 #[tb,ac b] w (iF (pK (t.mE b)) λw' =>w=w') :=by
 have x0:=h.x0;have x1:=h.x1;have x2:=h.at_ hb;have x3:=h.look hb;have h0:(0:Int)<=b:=Mx;have h1:(b:Int)<t.len:=Mx;unfold aE.mE;generalize t.get b=c at*;generalize t.len=n at*;cases hk:t.kept.getD b none with
 |none=>
  rw[hk] at x3;simp only[Option.getD_none,Option.isSome_none] at x3|-;clear h hk hb;go_in;go_wp2;exact vl
 |some y=>
  rw[hk] at x3;simp only[Qdu,Option.isSome_some] at x3|-;clear h hk hb;go_in;go_wp2;exact vl
def qH(w:Wo)(tb cb mb:Nat)(t:aE)(h:bf w tb cb mb t)(b:Int):
  Calls prog 121 #[tb,ac b] w (iF (ac (if 0<=b then t.get b.toNat else 0)) λw' =>w=w') :=by
 have HH:=aa (tW w tb t.len _ _ h.x0 b);by_cases hb:0<=b/\b<t.len
 .obtain⟨h0,h1⟩:=hb;obtain⟨b,rfl⟩:=Qeg h0;have x0:=h.x0;have x2:=h.at_ (b:=b) Mx;have g:=aE.ll h.ok b;rw[Xa ⟨h0,h1⟩] at HH;rw[Xo h0,Xt];have hw:IntKind.i64.wrap (t.get b)=t.get b:=by unfold IntKind.wrap;simp[IntKind.signed,IntKind.bits];omega
  generalize t.get b=c at*;generalize t.len=n at*;clear h g;go_in;go_wp2_with(go_at_call 127;refine PP HH.o ?_);exact vl
 .rw[Xe hb] at HH;have e:(if 0<=b then t.get b.toNat else 0)=0:=by
   split
   .rename_i h0
    rw[aE.get,Qe,QQ (by unfold aE.len at hb;omega)];rfl
   .rfl
  rw[e];clear h hb e;go_in;go_wp2_with(go_at_call 127;refine PP HH.o ?_);exact vl
def yC(w:Wo)(tb cb mb:Nat)(t:aE)(h:bf w tb cb mb t)(b:Nat):
  Calls prog 62 #[tb,ac b] w (iF (.bool (t.free b)) λw' =>w=w') :=by
 have HH:=aa (tW w tb t.len _ _ h.x0 b);by_cases hb:b<t.len
 .have h0:(0:Int)<=b:=by omega
  have h1:(b:Int)<t.len:=Mx;have x0:=h.x0;have x2:=h.at_ hb;have HW:=aa (I5 w tb cb mb t h b hb);rw[Xa ⟨h0,h1⟩] at HH;have e:t.free b=(decide (t.get b=0)&&decide (t.mE b=0)):=by rw[aE.free,Xa hb,Qda];rfl
  rw[e];generalize t.get b=c at*;generalize t.mE b=c' at*;generalize t.len=n at*;clear h e hb;by_cases hc:c=0
  .subst hc;by_cases TJ :c' =0
   .subst TJ;go_in;go_wp2_with(first|(go_at_call 127;refine PP HH.o ?_)|(go_at_call 128;refine PP HW.o ?_));exact vl
   .have EB :=Xc TJ;rw[Xe TJ];go_in;go_wp2_with(first|(go_at_call 127;refine PP HH.o ?_)|(go_at_call 128;refine PP HW.o ?_));exact vl
  .have EB :=Xc hc;rw[Xe hc,Bool.false_and];go_in;go_wp2_with(first|(go_at_call 127;refine PP HH.o ?_)|(go_at_call 128;refine PP HW.o ?_));exact vl
 .rw[Xe Mx] at HH;have e:t.free b=false:=by rw[aE.free,Xe hb];rfl
  rw[e];clear h hb e;go_in;go_wp2_with(go_at_call 127;refine PP HH.o ?_);exact vl
def LJ(w:Wo)(tb cb mb:Nat)(t:aE)(h:bf w tb cb mb t):
  Calls prog 61 #[tb] w (iF (ac t.cY) λw' =>w=w') :=by
 have x0:=h.own.j2;clear h;go_in;go_wp2;exact vl
def Pu(w:Wo)(tb wb xb:Nat)(cv mv:Va)(t:aE)(ws count one:Int)(h:aq w tb 174 (wQ cv mv t.cY t.waits))(hw:aq w wb 30 [pK ws])(hx:aq w xb 51 [tb])
  (hf: -10<=t.cY/\t.cY<=5000) (hv: -10<=t.waits/\t.waits<=5000) (ho:one=1\/one= -1):
  Calls prog 223 #[pK count,ac one,wb,xb] w λe w' =>(∃v,e= .returned v)/\aq w' tb 174 (wQ cv mv (t.Iy ws count one).cY (t.Iy ws count one).waits)/\aG (λx=>x=tb) w w'/\w'.heap.size=w.heap.size:=by
 have H:=aa h;obtain⟨-,-,x2,x3⟩:=mm h;obtain⟨-,-,f2,f3⟩:=WI h;have y0:=hw.j0;have z0:=hx.j0;have w2:wrap64 (t.cY+one)=t.cY+one:=vW;have w3:wrap64 (t.waits+one)=t.waits+one:=vW;unfold aE.Iy;clear h hw hx hf hv ho;by_cases hc:0<count
 .rw[Xo hc];go_in;go_wp2;go_end0;exact⟨⟨_,rfl⟩,H.o,aG.refl _ _,rfl⟩
 .rw[Xd hc];by_cases hs:0<ws
  .rw[Xo hs];go_in;go_wp2;go_end0;refine⟨⟨_,rfl⟩,H.o.set 3 _,aG.setCell (S:=λx=>x=tb) (aG.refl _ w) (λ_=>rfl) _,Sv⟩
  .rw[Xd hs];go_in;go_wp2;go_end0;refine⟨⟨_,rfl⟩,H.o.set 2 _,aG.setCell (S:=λx=>x=tb) (aG.refl _ w) (λ_=>rfl) _,Sv⟩
def TS(tb cb mb:Nat):Nat->Prop:=λx=>x=tb\/x=cb\/x=mb
def Mi(t:aE)(ws c one:Int)(ho:one=1\/one= -1)(hf:0<=t.cY/\t.cY<=4096)(hv:0<=t.waits/\t.waits<=4096):
  (-10<=(t.Iy ws c one).cY/\(t.Iy ws c one).cY<=5000)/\(-10<=(t.Iy ws c one).waits/\(t.Iy ws c one).waits<=5000):=by
 unfold aE.Iy;split
 .omega
 .split<;>simp<;>omega
def map_set{b:Nat}(l:Fr)(n:Int):(l.map (Value.int .u16)).set b (pK n)=(l.set b n).map (.int .u16):=by rw[Qem]
def Ch(w:Wo)(tb cb mb:Nat)(t:aE)(h:bf w tb cb mb t)(b:Nat)(hb:b<t.len)(n:Int)(hn:0<=n/\n<=65535):
  Calls prog 207 #[tb,ac b,pK n] w λe w' =>(∃v,e= .returned v)/\bf w' tb cb mb (t.set b n)/\aG (TS tb cb mb) w w' :=by
 have⟨W1,aW⟩:=eX (w.alloc (.cells #[tb] 51));have⟨xb,eD⟩:=eX w.heap.size;have X1:Af (aq W1 xb 51 [tb]):=by show aq _ _ _ _;rw[aW,eD];exact ar _ [_] _
 have B1:Af (ci w W1):=zab;have T1:=aa (h.on B1.o);obtain⟨W3,cD,-,Bk3⟩:=nW W1 [pK (t.mE b)] 30;have⟨wb,hwb⟩:=eX W1.heap.size;have hX:xb<wb:=by rw[hwb];exact X1.o.lt
 have V3:Af (aq W3 wb 30 [pK (t.mE b)]):=by show aq _ _ _ _;rw[cD,hwb];exact ar _ [_] _
 obtain⟨X3,T3,B3,HW,qe,bj,Hn⟩:=un (X1.o.on Bk3) (T1.o.on Bk3) (Pd B1.o Bk3) (I5 W1 tb cb mb t T1.o b hb) h.ok hb hn;have htl:tb<w.heap.size/\cb<w.heap.size/\mb<w.heap.size:=⟨h.own.lt,h.counts.lt,h.kept.lt⟩;have fq:=hI8 (by omega:tb<xb) (by omega:cb<xb) (by omega:mb<xb) hX eD h.tc h.tm h.cm;obtain⟨gB,mT,Hwb,xD⟩:=rx aW.symm cD.symm hwb.symm eD.symm;clear aW cD hwb eD hX Bk3 htl h hb hn;go_in;go_upto_region 1 with fail;rw[gB.o,xD.o];have x0:=X1.o.j0;go_upto_region 2 with(go_at_call 128;refine HW.o.mono ?_;rintro e W9 ⟨rfl,rfl⟩);rw[mT.o,Hwb.o];have⟨t1,Ex⟩:=eX (t.Iy (t.mE b) (t.get b) (-1));have⟨t2,ht2⟩:=eX (t1.Iy (t.mE b) n 1);have hfw:=qe.o.frees_le;have hww:=qe.o.waits_le;have C1:=aa (Pu W3 tb wb xb _ _ t (t.mE b) (t.get b) (-1) T3.o.own V3.o X3.o Mx Mx (.inr rfl));rw[<-Ex] at C1;have C2:Af (∀W,aG (λx=>x=tb) W3 W->aq W tb 174 (wQ (el cb 0 t.len t.len) (.map (some mb)) t1.cY t1.waits)->Calls prog 223 #[pK n,ac 1,wb,xb] W λe w' =>(∃v,e= .returned v)/\aq w' tb 174 (wQ (el cb 0 t.len t.len) (.map (some mb)) t2.cY t2.waits)/\aG (λx=>x=tb) W w'/\w'.heap.size=W.heap.size):=by intro W hc hb;have tF:=Mi t (t.mE b) (t.get b) (-1) (.inr rfl) hfw hww;rw[<-Ex] at tF;have h1:=Pu W tb wb xb _ _ t1 (t.mE b) n 1 hb (V3.o.aL hc zaD) (X3.o.aL hc zaD) tF.1 tF.2 (.inl rfl);rw[<-ht2] at h1;exact h1
 have y0:=X3.o.j0;have y1:=T3.o.x0;have y2:=T3.o.at_ bj.o;have h0:(0:Int)<=b:=Mx;have h1:(b:Int)<t.len:=by have:=bj.o;omega
 have Htl:Af (t.len=t.len):=rfl;clear hfw hww x0 HW gB mT;go_upto_region 4 with(go_at_call 223;refine C1.o.mono ?_;rintro e W4 ⟨⟨v4,rfl⟩,k4,c4,s4⟩;have K4:=aa k4;have Q4:=aa c4;have S4:Af (W4.heap.size=W3.heap.size):=s4;clear k4 c4 s4);go_upto_region 5 with(go_at_call 223;refine(C2.o W4 Q4.o K4.o).mono ?_;rintro e W5 ⟨⟨v5,rfl⟩,k5,c5,s5⟩;have K5:=aa k5;have Q5:=aa (Q4.o.trans c5);have S5:Af (W5.heap.size=W3.heap.size):=s5.trans S4.o;clear k5 c5 s5);have zm:Af (∀W,aG (λx=>x=mb) (W5.setCell (an cb b) (pK n)) W->MG uj W mb (du (t.set b n).kept) (nS (t.set b n).kept)->bf W tb cb mb (t.set b n)/\aG (TS tb cb mb) w W):=by
  intro W hc hm;have bT:=fq.o;have e1:(t.set b n).cY=t2.cY:=by rw[ht2,Ex];rfl
  have e2:(t.set b n).waits=t2.waits:=by rw[ht2,Ex];rfl
  have k0:=T3.o.counts.aL Q5.o Mx;have k1:=(k0.set b (pK n)).aL hc Mx;rw[map_set] at k1;refine⟨⟨?_,k1,hm,qe.o.set bj.o Hn.p1 Hn.q1⟩,?_⟩
  .rw[aE.tU,e1,e2];exact(K5.o.az (by show tb≠cb;omega) _).aL hc Mx
  .have c1:aG (TS tb cb mb) w W3:=aG.aZ B3.o;have c2:aG (TS tb cb mb) W3 W5:=Q5.o.mono λx _ h=> .inl h;have c3:aG (TS tb cb mb) W5 (W5.setCell (an cb b) (pK n)):=(aG.refl _ _).setCell (λ_=> .inr (.inl rfl)) _;exact((c1.trans c2).trans c3).trans (hc.mono λx _ h=> .inr (.inr h))
 have Hkl:Af (b<t.kept.length):=by show _<_;rw[qe.o.J0];exact bj.o
 have mY:Af ((Lit.int .i64 (b:Int)).wf=true):=mo (by have:=qe.o.n1;have:=bj.o;omega);have HM:Af (MG uj (W5.setCell (an cb b) (pK n)) mb (du t.kept) (nS t.kept)):=
  (T3.o.kept.aL Q5.o zaD).az (by show mb≠cb;have:=fq.o;omega) _
 have HnS:Af (nS t.kept<=100000):=by have h1:=Yq t.kept;rw[qe.o.J0] at h1;exact Qh h1 (by have:=qe.o.n1;omega)
 have X5:=aa (X3.o.aL Q5.o zaD);have V5:=aa (V3.o.aL Q5.o zaD);have z0:=X5.o.j0;obtain⟨z1,z4⟩:=gh K5.o;have z5:=V5.o.j0;have z2:=(T3.o.counts.aL Q5.o zaD).free b;have z3:=(Q5.o.cell (p:=an cb b) T3.o.counts.lt (by have:=fq.o;show ¬cb=tb;omega)).trans (T3.o.at_ bj.o);clear C1 C2 K4 Q4 S4 y0 y1 y2 Ex ht2;go_upto_region 6 with fail;have z0:(W5.setCell (an cb b) (pK n)).cell? xb=some tb:=(X5.o.az (by show xb≠cb;have:=fq.o;omega) _).j0;have z4:(W5.setCell (an cb b) (pK n)).cell? (an tb 1)=some (.map (some mb)):=(K5.o.az (by show tb≠cb;have:=fq.o;omega) _).j1;have z5:(W5.setCell (an cb b) (pK n)).cell? wb=some (pK (t.mE b)):=(V5.o.az (by show wb≠cb;have:=fq.o;omega) _).j0;have⟨W6,jc⟩:=eX (W5.setCell (an cb b) (pK n));rw[<-jc] at HM zm z0 z4 z5|-;clear jc z1 z2 z3;have⟨ws,Ev⟩:=eX (t.mE b);rw[<-Ev] at z5|-;by_cases hnw:n=ws
 .have Hws:=aa (hnw.trans Ev);subst hnw;clear Ev;go_upto_region 7 with fail;go_wp2_with(refine wl_cut uj rfl rfl HM.o (b:Int) mY.o rfl rfl ?_;intro W7 Nd ti;have WZ:=aa Nd;have XZ:=aa ti;clear Nd ti);go_end0;refine⟨⟨_,rfl⟩,zm.o _ (aG.dH XZ.o (λx _ e=>(Qr e).symm)) ?_⟩;have h1:=WZ.o;have e3:(t.set b n).kept=t.kept.set b none:=by unfold aE.set;simp only;rw[Xo Hws.o]
  rw[e3,zI,<-yz];rw[gN] at h1;exact h1
 .have Hws:=dK (by rw[<-Ev];exact hnw:¬n=t.mE b) Ev;clear Ev;go_upto_region 8 with fail;refine Qat 6 KJ KJ ?_;simp only[Zw,Zq,Zk,Zl];change wpStill _ _ (World.drew W6) (λa' =>wpList _ _ _ _ a' (World.drew W6)) _ _;repeat still_step
  refine Qdf ?_;refine wl_put uj (m:=mb) (f:=du t.kept) (s:=nS t.kept) rfl (show MG uj W6.drew mb _ _ from HM.o) HnS.o (b:Int) ws mY.o rfl rfl rfl ?_;intro W7 Nd ti;change Af _ at Nd ti;go_wp2_with fail;go_end0;refine⟨⟨_,rfl⟩,zm.o _ ((aG.refl _ W6).drew.trans (aG.dH ti.o (λx _ e=>(Qr e).symm))) ?_⟩;have h1:=Nd.o;have e3:(t.set b n).kept=t.kept.set b (some ws):=by unfold aE.set;simp only;rw[Xd Hws.p1,Hws.q1]
  rw[e3,zH _ _ _ Hkl.o,<-yy _ _ Hkl.o];rw[gN] at h1;exact h1
def U2(w:Wo)(tb cb mb:Nat)(t:aE)(h:bf w tb cb mb t)(b:Nat):
  Calls prog 190 #[tb,ac b] w (iF (ac (t.up b).1) λw' =>bf w' tb cb mb (t.up b).2/\aG (TS tb cb mb) w w') :=by
 have HB:=aa (cn w tb t.len _ _ h.x0);have HH:=aa (tW w tb t.len _ _ h.x0 b);have jU:=h.ok.n0;have j5:((t.len:Int)==0)=false:=Xc Mx;have H:=aa h;unfold aE.up;by_cases hb:t.len<=b
 .rw[Xo hb];rw[Xe Mx] at HH;generalize t.len=n at*;clear h jU hb;exact zdV
 .rw[Xd hb];have sq:b<t.len:=by omega
  have x0:=h.x0;have x1:=h.at_ sq;have g:=aE.ll h.ok b;have h0:(0:Int)<=b:=Mx;have h1:(b:Int)<t.len:=Mx;rw[Xa ⟨h0,h1⟩] at HH;by_cases hc:t.get b=65535
  .rw[Xo hc];rw[hc] at x1;generalize t.len=n at*;clear h jU hb g;exact zdV
  .rw[Xd hc];have HS:=aa (Ch w tb cb mb t h b sq (t.get b+1) Mx);have hw:IntKind.u16.wrap (t.get b+1)=t.get b+1:=(by unfold IntKind.wrap;simp[IntKind.signed,IntKind.bits];omega);exact zdZ
def sa(w:Wo)(tb cb mb:Nat)(t:aE)(h:bf w tb cb mb t)(b:Nat):
  Calls prog 169 #[tb,ac b] w (iF (ac (t.down b).1) λw' =>bf w' tb cb mb (t.down b).2/\aG (TS tb cb mb) w w') :=by
 have HB:=aa (cn w tb t.len _ _ h.x0);have HH:=aa (tW w tb t.len _ _ h.x0 b);have jU:=h.ok.n0;have j5:((t.len:Int)==0)=false:=Xc Mx;have H:=aa h;unfold aE.down;by_cases hb:t.len<=b
 .rw[Xo hb];rw[Xe Mx] at HH;generalize t.len=n at*;clear h jU hb;exact zdV
 .rw[Xd hb];have sq:b<t.len:=by omega
  have x0:=h.x0;have x1:=h.at_ sq;have g:=aE.ll h.ok b;have h0:(0:Int)<=b:=Mx;have h1:(b:Int)<t.len:=Mx;rw[Xa ⟨h0,h1⟩] at HH;by_cases hc:t.get b=0
  .rw[Xo hc];rw[hc] at x1;generalize t.len=n at*;clear h jU hb g;exact zdV
  .rw[Xd hc];have HS:=aa (Ch w tb cb mb t h b sq (t.get b - 1) Mx);have hw:IntKind.u16.wrap (t.get b - 1)=t.get b - 1:=(by unfold IntKind.wrap;simp[IntKind.signed,IntKind.bits];omega);exact zdZ
def Jo:(prog.info? 30).map (λi=>(i.zero,i.size,i.bytes))=some (some (pK 0),1,2):=KJ
def IZ(n:Nat):(aE.new n).counts.map (Value.int .u16)=replicate n (pK 0):=by simp[aE.new]
def Cv(w:Wo)(n:Nat)(h0:1<=n)(h1:n<=4096):
  Calls prog 47 #[ac n] w λe w' =>∃tb cb mb,e= .returned (.tuple #[li tb,ac 0])/\bf w' tb cb mb (aE.new n)/\w.heap.size<=tb/\w.heap.size<=cb/\w.heap.size<=mb/\ci w w' :=by
 have⟨W1,aW⟩:=eX (qr w (replicate n (pK 0)).toArray 30);have⟨cb,iI⟩:=eX w.heap.size;have yX:(Instr.makeSlice 64 (ac n) (ac n)).run prog w= .ok (el cb 0 n n) W1:=by have:=eV underlying64 Jo (eC .u16 0) Fd n Mx w;rw[aW,iI];exact this
 have P1:Af (aq W1 cb 30 (replicate n (pK 0))):=by show aq _ _ _ _;rw[aW,iI];exact ar _ _ _
 have B1:Af (ci w W1):=aW▸(aF _ _);have HC:=aa iI;have H:=dK h0 h1;have g0:¬(n:Int)<1:=Mx;have g1:¬(4096:Int)<n:=Mx;have M2:Af (MG uj (W1.alloc (.map #[] 0)) W1 (λ_=>none) 0):=MG.made W1;have P2:=aa (P1.o.alloc (.map #[] 0));have B2:=aa (Pd B1.o (aF W1 (.map #[] 0)));have xA:= @run_makeMap prog;clear aW iI h0 h1;go_in;go_wp2_with fail;go_ret2;have⟨W2,cE⟩:=eX (W1.alloc (.map #[] 0));rw[<-cE] at M2 P2 B2|-;have hs:W2.heap.size=W1.heap.size+1:=by rw[cE];simp
 have hb:=aF W2 (.cells (wQ (el cb 0 n n) (.map (some W1)) n 0).toArray 174);have hT:bf (qr W2 (wQ (el cb 0 n n) (.map (some W1)) n 0).toArray 174) (W1.heap.size+1) cb W1 (aE.new n):=by
  refine⟨?_,?_,?_,aE.ab0 H.p1 H.q1⟩
  .have e:(aE.new n).len=n:=(by simp[aE.new,aE.len]);rw[e,<-hs];exact ar W2 [_,_,_,_] _
  .rw[IZ];exact P2.o.on hb
  .have e:nS (aE.new n).kept=0:=qN n;have e2:du (aE.new n).kept=λ_=>none:=(ko n).symm;rw[e,e2];exact M2.o.on hb
 exact⟨_,rfl,cb,W1.heap.size,hT,XK B1.o.size,by rw[HC.o];exact go,B1.o.size,Pd B2.o hb⟩
def DO(p:Int->Bool)(l:Fr):(range l.length).countP (λb=>p (l.getD b 0))=l.countP p:=by
 have e:l=(range l.length).map λb=>l.getD b 0:=by apply Qaf Sv;intro i h1 h2;simp[Qe,h1]
 conv=>rhs;rw[e]
 rw[Qid];rfl
def aE.ahB(l:Fr)(h0:1<=l.length)(h1:l.length<=4096)(hr:∀c∈l,0<=c/\c<=65535):(aE.of l).Ok:=by
 have k:∀b,(aE.of l).kept.getD b none=none:=λb=>by unfold aE.of;simp only[Qe,Zr];split<;>rfl
 have ws:∀b,(aE.of l).mE b=l.getD b 0:=λb=>by rw[aE.mE,k b];rfl
 refine⟨h0,h1,by simp[aE.of,aE.len],hr,λc hc=>(by cases QJ hc),?_,?_⟩
 .have h2:(range l.length).countP (aE.of l).free=(range l.length).countP (λb=>(λc=> !decide (0<c)) (l.getD b 0)):=Qeh λb hb=>by have hb:=Zm.1 hb;rw[aE.free,ws b];have hl:(aE.of l).len=l.length:=rfl;have hg:(aE.of l).get b=l.getD b 0:=rfl;rw[hl,hg,Xa hb,Qda,Qgy];have:0<=l.getD b 0:=(by rw[Qe,Qf hb];exact(hr _ (QI hb)).1);generalize l.getD b 0=c at*;simp;omega
  show(l.length:Int) - _=((range l.length).countP (aE.of l).free:Nat);rw[h2,DO (λc=> !decide (0<c)) l];have h3:=Qhc (λc:Int=>decide (0<c)) (l:=l);simp only[Qer,Bool.decide_eq_false] at h3;omega
 .show(0:Int)=((range l.length).countP (aE.of l).pD:Nat);have:(range l.length).countP (aE.of l).pD=0:=List.countP_eq_zero.2 λb hb=>by rw[aE.pD,ws b];have hg:(aE.of l).get b=l.getD b 0:=rfl;rw[hg];cases(l.getD b 0==0)<;>simp
  rw[this];rfl
def Vr(l:Fr)(k:Nat)(x:Int)(hx:l[k]? =some x):(l.take (k+1)).countP (λc=>decide (0<c))=(l.take k).countP (λc=>decide (0<c))+if 0<x then 1 else 0:=by rw[Qcw,hx,Qcd];simp[Qai]
def LS(l:Fr)(k:Nat)(x:Int)(hx:l[k]? =some x):((l.take k).map (Value.int .u16)++replicate (l.length - k) (pK 0)).set k (pK x)=(l.take (k+1)).map (Value.int .u16)++replicate (l.length - (k+1)) (pK 0):=by
 have hk:=(Ql.1 hx).1;have e:l.length - k=(l.length - (k+1))+1:=Mx;have hl:((l.take k).map (Value.int .u16)).length=k:=by rw[Qq,Qu];omega
 rw[e,Qcy,ZB _ _ zbc,hl,XE,Qd,Qcw,hx,QL];simp
def Vs(w:Wo)(B:Nat)(hB:B<=w.heap.size)(v:Va)(l:Fr)(h:Ns w B .u16 v l)(h0:1<=l.length)(h1:l.length<=4096)(hr:∀c∈l,0<=c/\c<=65535):
  Calls prog 52 #[v] w λe w' =>∃tb cb mb,e= .returned (.tuple #[li tb,ac 0])/\bf w' tb cb mb (aE.of l)/\w.heap.size<=tb/\w.heap.size<=cb/\w.heap.size<=mb/\ci w w' :=by
 obtain⟨b,o,c,rfl,jb,pk,hbB,aH⟩:=h.cells Mx;have HN:=aa (Cv w l.length h0 h1);have qe:=aa (aE.ahB l h0 h1 hr);have Hc:Af (∀W,ci w W->∀j,j<l.length->W.cell? (an b (o+j))=some (pK (l.getD j 0))):=λW hW j hj=>(hW.cell (p:=an b (o+j)) (show b<w.heap.size by omega)).trans (aH j hj);have⟨n,hn⟩:=eX l.length;have Hn:=iJ hn (by omega:1<=n) (by omega:n<=4096);rw[<-hn] at HN|-;have j5:(n:Int)<=4096:=Mx;clear h h0 h1 hr hn aH jb pk hbB hB;go_in;go_wp2_with(go_at_call 47;refine HN.o.mono ?_;rintro e W1 ⟨tb,cb,mb,rfl,t1,b1,b2,b3,b4⟩;have T1:=aa t1;have B1:=aa b4;have Hlo:Af (w.heap.size<=tb/\w.heap.size<=cb/\w.heap.size<=mb):=⟨b1,b2,b3⟩;clear t1 b1 b2 b3 b4);clear HN;go_loopw [19] (λi wr=>∃k:Nat,i= ac k/\Af (k<=n/\aq wr tb 174 (wQ (el cb 0 n n) (.map (some mb)) ((n:Int) - (l.take k).countP (λc=>decide (0<c))) 0)/\aq wr cb 30 ((l.take k).map (.int .u16)++replicate (l.length - k) (pK 0))/\MG uj wr mb (λ_=>none) 0/\ci w wr)) (λi _=>n - (intOf i).toNat)
 .have e:(aE.new n).len=n:=by simp[aE.new,aE.len]
  refine⟨0,rfl,lm,?_,?_,?_,B1.o⟩
  .have h:=T1.o.own;rw[e] at h;have h2:aq W1 tb 174 (wQ (el cb 0 n n) (.map (some mb)) (n:Int) 0):=h;simpa using h2
  .have h:=T1.o.counts;rw[IZ,Hn.p1] at h;simpa using h
  .have h:=T1.o.kept;rw[show nS (aE.new n).kept=0 from qN n,show du (aE.new n).kept=λ_=>none from(ko n).symm] at h;exact h
 .obtain⟨k,rfl,HR⟩:=hrel;by_cases aJ:k<n
  .have hi:(k:Int)<n:=(by omega);have ml:(0:Int)<=k:=Mx;have bQ:k<l.length:=wl;have⟨x,hx⟩:=eX (l.getD k 0);have pf:l[k]? =some x:=zag;have y0:=Hc.o wr HR.q4 k bQ;rw[<-hx] at y0;obtain⟨x0,-,x2⟩:=ra HR.p2;have xf:=HR.p2.free 2;have hs:=LS l k x pf;have ho:=Vr l k x pf;obtain⟨u,hu⟩:∃u,((l.take k).map (Value.int .u16)++replicate (l.length - k) (pK 0))[k]? =some u:=⟨_,Qf (by rw[Qo,Qq,Qu,QK];omega)⟩;have z0:=HR.p3.cell hu;have zf:=HR.p3.free k;have C1:=HR.p3.set k (pK x);rw[hs] at C1;have su:=aa C1;have fq:=iJ (HR.p2.ne HR.p3 Fd) (HR.p2.bS HR.p4) (HR.p3.bS HR.p4);have hle:=Qdm (p:=λc:Int=>decide (0<c)) (l:=l.take k);rw[Qu] at hle;have nZ:wrap64 ((n:Int) - ((l.take k).countP (λc=>decide (0<c)):Nat) - 1)=(n:Int) - ((l.take k).countP (λc=>decide (0<c)):Nat) - 1:=vW;have fp:wrap64 ((k:Int)+1)=(k:Int)+1:=vW;obtain⟨q,hq⟩:∃q:Int,q=(n:Int) - ((l.take k).countP (λc=>decide (0<c)):Nat):=⟨_,rfl⟩;rw[<-hq] at nZ x2;have K2:Af (aq (wr.setCell (an cb k) (pK x)) tb 174 (wQ (el cb 0 n n) (.map (some mb)) q 0)):=(by have h:=HR.p2;rw[<-hq] at h;exact h.az fq.p1 _);have K3:Af (MG uj (wr.setCell (an cb k) (pK x)) mb (λ_=>none) 0):=HR.p4.az (Xm fq.q2) _;have K4:Af (ci w (wr.setCell (an cb k) (pK x))):=HR.q4.setCell Hlo.p2 _;have Ho:=aa ho;have Hq:=aa hq;have bj:=aa aJ;have eu:=aa fp;clear hx pf hs ho hu C1 hle hq aJ bQ HR T1;by_cases gd:0<x
   .have Hx0:=aa gd;have e1:Af (q - 1=(n:Int) - ((l.take (k+1)).countP (λc=>decide (0<c)):Nat)):=(by show _=_;rw[Ho.o,Xo Hx0.o,Hq.o];push_cast;omega);have k0:=K2.o.j2;have kf:=K2.o.free 2;go_wp2_with fail;go_roundw
    .refine⟨k+1,xh,bj.o,?_,su.o.az (Xm fq.p1) _,K3.o.az (Xm fq.p2) _,K4.o.setCell Hlo.p1 _⟩;rw[<-e1.o];exact K2.o.set 2 _
    .exact wn
   .have Hx0:=aa gd;have e1:Af (q=(n:Int) - ((l.take (k+1)).countP (λc=>decide (0<c)):Nat)):=(by show _=_;rw[Ho.o,Xd Hx0.o,Hq.o];push_cast;omega);go_wp2_with fail;go_roundw
    .refine⟨k+1,xh,bj.o,?_,su.o,K3.o,K4.o⟩;rw[<-e1.o];exact K2.o
    .exact wn
  .obtain rfl:k=n:=(by have:=HR.p1;omega);go_wp2_with fail;go_ret2;have e1:l.take k=l:=Qj wl;have hb:=HR.o;rw[e1] at hb;refine⟨tb,cb,mb,rfl,⟨?_,?_,?_,qe.o⟩,Hlo.p1,Hlo.p2,Hlo.q2,hb.2.2.2.2⟩
   .have h:=hb.2.1;have e2:(aE.of l).len=k:=Hn.p1.symm;rw[e2];rw[show(aE.of l).cY=(k:Int) - ((l.countP λc=>decide (0<c)):Nat) by rw[Hn.p1];rfl];exact h
   .have h:=hb.2.2.1;rw[<-Hn.p1,XE,Qcx,Zi] at h;exact h
   .have e3:nS (aE.of l).kept=0:=qN _;have e4:du (aE.of l).kept=λ_=>none:=(ko _).symm;rw[e3,e4];exact hb.2.2.2.1
def Dn{P:ST}{k:Fy}{R:Va->Option (DataW Unit×List MemPlace)}{w w' :Wo}{b r n:Nat}{D:DataW Unit}{left:Lit->Bool}{cnt:Nat}(h:w.ranges P k R b r n D left cnt)(hb:KeepsOthers w w'):w'.ranges P k R b r n D left cnt:=by obtain⟨es,clock,since,seen,c0,e1,e2,e3,e4,e5,e6⟩:=h;exact⟨es,clock,since,seen,c0,hb.same _ _ e1 rfl,e2,e3,e4,hb.same _ _ e5 rfl,e6⟩
def OkK{K V:Type}(f:K->Option V)(pre:List K)(x:K):Prop:=(x∉pre/\(f x).isSome=true)/\pre.Nodup/\∀z∈pre,(f z).isSome=true
def sL{K V:Type}(f:K->Option V)(pre:List K):Prop:=pre.Nodup/\∀x,x∈pre↔(f x).isSome=true
def Lu(w:Wo)(m:Nat):Calls prog 94 #[.map (some m)] w (iF (.func (.func 166) #[] #[w]) λw' =>w' =w.alloc (.cells #[.map (some m)] 172)):=by go_in;go_wp2;exact vl
def RF(n:Nat)(hn:1<=n)(l n0 Bx m s:Nat)(f:Int->Option Int)(J:List Int->Wo->Prop)(W:Wo)(jU:n0<=W.heap.size)(j8:Bx<W.heap.size)
  (hJ:∀pre A C (r:Option Nat),J pre A->A.grownBy C r->(∀j o,r=some j->A.heap[j]? =some o->o.isCells=false/\W.heap.size<=j)->J pre C)
  (hY:∀pre x,OkK f pre x->∀W1,J pre W1->YieldAt Fence.wide (n - 1) prog l #[.int .i64 x] W1 λe W' =>e= .returned true/\J (pre++[x]) W'/\fo n0 Bx W1 W'/\KeepsOthers W1 W')
  (aH:W.cell? Bx=some (.map (some m))) (hm:MG uj W m f s) (h0:J [] W):
  CallsIn Fence.wide n prog 166 #[.func (.yield l) #[] #[],Bx] W λe W' =>(∃v,e= .returned v)/\∃pre,sL f pre/\J pre W' :=by
 obtain⟨D,bN,cz,hD⟩:=hm;have zt:=aa bN;have HD:=aa hD;have HJ:=aa hJ;have HY:=aa hY;have H0:=aa h0;have Hb:=dK jU j8;clear bN hD hJ hY h0 cz jU j8;refine Qfc func166 rfl trivial ?_ rfl;simp only[ntmps166,QW,QF,Xq,Nat.reduceAdd,Nat.reduceSub,Xv,Xw,Xx,Xy,QZ,Qaj];gi_wp2_with (first|(gi_at_range;refine wpListIn_range_own _ rfl _ 172 rfl 3 30 uj.keyed underlying172 _ m s D rfl zt.o ?_;intro w0 agi AV lz));go_frame;have anL:=aa agi;have HJ0:=aa (HJ.o _ _ _ none H0.o AV (λj o h=>zaY));have Hs0:=aa lz;clear agi AV lz aH;gi_loopw [3] (λ_ wr=>∃(pre:Fr) (left:Lit->Bool) (cnt:Nat),Af (wr.ranges prog 3 uj.R m W s D left cnt/\pre.Nodup/\(∀x∈pre,(f x).isSome=true)/\(∀x,uj.qY x->left (.int .i64 x)=((f x).isSome&& !pre.contains x))/\J pre wr)) (λ_ wr=>wr.rangeLeft m W.heap.size)
 .exact zeF
 .obtain⟨pre,left,cnt,HR⟩:=hrel;have HRg:=aa HR.p1;gi_wp2_with (first|(gi_at_next;refine wpListIn_next_ranges _ rfl _ rfl 3 uj.keyed uj.R (Value.int .i64) (Value.int .u16) (λkey kl hk=>by obtain⟨x,_,e⟩:=uj.sB key kl hk;exact⟨x,e⟩) (λv y hv=>by obtain⟨c,e,_⟩:=uj.Bm v y hv;exact⟨c,e⟩) m W s D _ _ rfl HRg.o ?_ ?_))
  .intro _ bm;have Fe:=aa bm;clear bm;gi_wp2;go_end0;exact zej
  .intro x c kl y ps w1 avU ir SG hv kJ agh aJ SN Ip hen;have ec:uj.qY x:=(by obtain⟨x',We,e⟩:=uj.sB _ _ ir;have e2:=uj.Bn x x' e;rw[e2];exact We);obtain rfl:kl= .int .i64 x:=Qr (ir.symm.trans (uj.ir x ec));have xx:=HR.p4 x ec;rw[SG] at xx;have hx2:(f x).isSome=true/\x∉pre:=zfO
   have hJ1:J pre w1:=HJ.o _ _ _ (some W.heap.size) HR.q4 SN (λj o hj ho=>by
    cases hj
    obtain⟨es,clock,since,seen,c0,e1,e2,e3,e4,e5,e6⟩:=HRg.o;rw[e5] at ho
    cases ho
    exact⟨rfl,Qg _⟩)
   have Hy:=aa (HY.o pre x ⟨⟨hx2.2,hx2.1⟩,HR.p2,HR.p3⟩ w1 hJ1);have anK:=aa agh;have bj:=aa aJ;have Hx:=aa hx2;clear ir SG hv kJ agh aJ SN Ip ec xx hx2 hJ1;gi_upto_region 3 with fail;obtain⟨fn,tmps,assign,bd,hy,Nr⟩:=Hy.o;gi_wp2;refine Nr.mono ?_;rintro e W3 ⟨rfl,Nu,jW,hk3⟩;have HJ3:=aa Nu;have ag8:=aa (Dn anK.o hk3);clear hy Nr Nu jW hk3 hen;gi_wp2;go_roundw
   .refine⟨pre++[x],_,_,ag8.o,?_,λz hz=> ?_,λz hz=> ?_,HJ3.o⟩
    .rw[List.nodup_append];exact⟨HR.p2,Sv,λa ha b hb=>zbV⟩
    .rcases Qz.1 hz with h|h
     .exact HR.p3 z h
     .rw[Qx] at h;subst h;exact Hx.p1
    .rw[HR.p4 z hz];by_cases hzx:z=x
     .subst hzx;rw[show(Lit.int .i64 z).sameKey (.int .i64 z)=true from WideAt.sameKey_self (uj.isKey hz)];simp
     .have h1:(Lit.int .i64 z).sameKey (.int .i64 x)=false:=by
       cases hs:(Lit.int .i64 z).sameKey (.int .i64 x)
       .rfl
       .exact absurd (WideAt.sameKey_eq hs) (λe=>hzx zdk)
      rw[h1];simp[hzx]
   .rw[ag8.o.left_eq,HRg.o.left_eq];exact bj.o
variable{v:Va}{r:Option Nat}
def iE:(prog.info? 3).map (λi=>(i.zero,i.size,i.bytes))=some (some (ac 0),1,8):=KJ
def IY{V:Type}(gf Bx:Nat)(f:Int->Option V)(P0:Wo->Prop):Prop:=
 ∀(n l n0:Nat) (J:List Int->Wo->Prop) (W:Wo),1<=n->n0<=W->Bx<W->
  (∀pre A C (r:Option Nat),J pre A->A.grownBy C r->(∀j o,r=some j->A.heap[j]? =some o->o.isCells=false/\W<=j)->J pre C)->
  (∀pre x,OkK f pre x->∀W1,J pre W1->YieldAt Fence.wide (n - 1) prog l #[.int .i64 x] W1 λe W' =>e= .returned true/\J (pre++[x]) W'/\fo n0 Bx W1 W'/\KeepsOthers W1 W')->
  P0 W->J [] W->CallsIn Fence.wide n prog gf #[.func (.yield l) #[] #[],Bx] W λe W' =>(∃v,e= .returned v)/\∃pre,sL f pre/\J pre W'
def Dr{b:Nat}{e:Fy}{k:Nat}{xs:Ox}(h:w.ownsRow b e 1 v k xs)(hg:w.grownBy w' r)(hr:∀j o,r=some j->w.heap[j]? =some o->o.isCells=false):w'.ownsRow b e 1 v k xs:=by
 refine h.kept hg ?_;rcases h.2 with⟨rfl,_⟩|⟨g,cap,cur,rfl,_,hb,_⟩
 .exact .inl rfl
 .refine .inr λe=> ?_;have h1:=hr g _ e.symm hb;cases h1
def xo{B:Nat}{t:Fy}(h:Boxed w B t v)(hg:w.grownBy w' r)(hr:∀j o,r=some j->w.heap[j]? =some o->o.isCells=false):Boxed w' B t v:=by refine(hg.block B h.lt λe=> ?_).trans h;have h1:=hr B _ e.symm h;cases h1
def xq{n:Nat}{w0:Wo}(h:Below n w0 w)(hn:n<=w0)(hg:w.grownBy w' r)(hr:∀j o,r=some j->w.heap[j]? =some o->n<=j):Below n w0 w' :=by
 refine h.grown hg (Qh hn h.size) λk hk=> ?_;by_cases aJ:k<w
 .exact hr k _ hk (Xu aJ)
 .exact Qh (Qh hn h.size) (QC aJ)
def xt{V:Type}(w:Wo)(gf Bx:Nat)(f:Int->Option V)(P0:Wo->Prop)(hF:Fence.wide.fn gf)(eg:∀args w,(callFunc gf args).run prog w= .ok (.enter gf args) w)(hI:IY gf Bx f P0)(j8:Bx<w)(hP:∀W,ci w W->P0 W)(hlen:∀pre x,OkK f pre x->pre.length<=5000):
  Calls prog 170 #[(),.func (.func gf) #[] #[Bx]] w λe w' =>∃v pre,e= .returned v/\sL f pre/\aB w' w 3 .i64 v pre/\ci w w' :=by
 have⟨W0,aY⟩:=eX (w.alloc (.cells #[()] 53));have⟨X,hX⟩:=eX w.heap.size;have K0:Af (Boxed W0 X 53 ()):=by show Boxed _ _ _ _;rw[aY,hX];exact Boxed.new w _ _
 have B0:Af (ci w W0):=aY▸(aF _ _);have HX:=kH hX K0.o.lt j8 (Qn j8 B0.o.size);have HW:=aa aY.symm;have Hx:=aa hX.symm;clear aY hX j8;change Af _ at hI hP hlen eg hF;refine(Qdb (n:=3)).1 ?_;refine callsIn_of_wp_marks func170 rfl trivial ?_ rfl;simp only[ntmps170,QW,QF,Xq,Nat.reduceAdd,Nat.reduceSub,Xv,Xw,Xx,Xy,QZ,Qaj];refine Qhl.2 ?_;go_upto_region 1 with fail;rw[HW.o,Hx.o];go_wp2;refine(Qhl (n:=3)).1 ?_;refine KN (P:=prog) rfl Fd (gf:=gf) (lb:= #[Bx]) rfl hF.o eg.o (λy:Int=> #[ac y]) (λ_=>rfl)
  w Bx B0.o.size HX.q3 (OkK f) (sL f)
  (λpre W=>(∃u,Boxed W X 53 u/\aB W w 3 .i64 u pre)/\ci w W)
  ?h0 ?hIr ?hIk ?hit (λy=>{tmps:= #[(),.func (.func gf) #[] #[Bx],X,undef,(),ac y,.func (.func gf) #[] #[Bx],ac y,undef,undef,undef,undef,undef],defers:=[]}) ?assign ?body ?done
 case h0=>exact λW hW=>⟨⟨_,(hW.block _ HX.p2).trans K0.o,cQ _ _ _ _⟩,Pd B0.o hW⟩
 case hIr=>
  rintro pre W l ob Y8 ⟨⟨u,h1,h2⟩,h3⟩ hl AS Ec;have hlX:X≠l:=zap;exact⟨⟨u,(World.putObj_heap_other hlX).trans h1,ownsRow_putObj h2 _ AS Ec⟩,h3.trans (fM W l Y8 (by have:=B0.o.size;omega))⟩
 case hIk=>rintro pre A C r ⟨⟨u,h1,h2⟩,h3⟩ hg hr;exact⟨⟨u,xo h1 hg (λj o hj ho=>(hr j o hj ho).1),Dr h2 hg (λj o hj ho=>(hr j o hj ho).1)⟩,xq h3 go hg (λj o hj ho=>Qh B0.o.size (hr j o hj ho).2)⟩
 case hit=>intro l J W hW hJ hY Iu;exact hI.o 2 l w J W Fd (Qh B0.o.size hW.size) (Qn HX.q3 hW.size) hJ hY (hP.o W (Pd B0.o hW)) Iu
 case assign=>
  intro l y W K hK;gi_wp2;exact hK
 case body=>
  rintro l pre y ec W ⟨⟨u,h1,h2⟩,h3⟩ cz;obtain⟨H1,H2,za⟩:=qC h1 h2 (hlen.o pre y ec);obtain⟨Au,nu,cu,hu⟩:=aB.bu (show aB W w 3 .i64 u pre from h2);clear h1 h2 ec;change Af _ at h3 cz;obtain⟨i0,hi,oI,mM,xw⟩:=Qdq iE;have oN:=aa (λ(v' :Va) (w1:Wo) (a:w1.ownsRow w 3 1 v' (pre.length+1) (pre.map (.int .i64)++[ac y])) (g:(W.alloc (.cells #[ac y] 3)).grownBy w1 u.ownBlock)=>Dd (Bx:=Bx) Fd H1.o H2.o a g (by have:=B0.o.size;have:=cz.o;omega) zap zap (by have:=HX.o;have:=cz.o;omega) (λe=>by have h1:=(Xr H2.o Bx e).1;have:=HX.o;omega));have q9:=H1.o.cell;have qf:=H1.o.frozen;subst hu;gi_wp2_with (gi_at_builtin;refine wpListIn_append_own _ rfl _ _ 53 rfl w 3 i0 (ac 0) 1 8 underlying53 hi oI mM xw rfl Fd _ _ _ rfl (aS H2.o (aF _ _)) (ol W) 1 1 [ac y] rfl rfl (cell_one_new _ _ _) (by simp[Value.oneCell']) (by have:=za.o;unfold maxLen;omega) (by have:=za.o;omega) (by have:=B0.o.size;have:=cz.o;simp;omega) ?_;intro v' w1 ng BJ _;obtain⟨g',rr,rfl⟩:=ownsRow_succ ng;have F:=aa (oN.o _ _ ng BJ);have iI:=F.p1.cell;have wB:=F.p1.frozen;clear ng BJ);obtain⟨f1,f2,f3,f4,f5,f6⟩:=F.o;refine⟨f4,f5,⟨_,f2,?_⟩,h3.o.trans f6⟩;rw[aB,Qo,QL];exact f3
 case done=>rintro D W pre hD kV ⟨⟨u,h1,h2⟩,h3⟩ hK;have q9:=h1.cell;obtain⟨Au,nu,cu,hu⟩:=h2.bu;subst hu;change Af _ at h1 h2 h3 hD hK kV;go_wp2;refine⟨Sv,.inl ⟨_,_,rfl,run_takeDeferred hK.o,?_⟩⟩;refine⟨_,results_tmp (t:=4) rfl _ _ _,am Au nu cu,pre,rfl,kV.o,ownsRow_putObj h2.o _ hK.o rfl,h3.o.trans (fM W D _ (by have:=B0.o.size;have:=hD.o;omega))⟩
def Et(l:Fr):List Int:=l.mergeSort λx y=>decide (x<=y)
def zD(l:Fr):(Et l).length=l.length:=List.length_mergeSort l
def Kz(w:Wo)(base:Nat)(v:Va)(zs:Fr)(h:aB w base 3 .i64 v zs)(hl:zs.length<=100000):
  Calls prog 101 #[v] w λe w' =>(∃u,e= .returned u)/\aB w' base 3 .i64 v (Et zs)/\w.grownBy w' v.ownBlock:=by
 rcases h.2 with⟨rfl,h0⟩|⟨g,cap,cur,rfl,hb,hh,hn,hm,hs,ht⟩
 .have:zs=[]:=Zf zas;subst this;refine PP (Tryz.slices_Sort_int_none none 0 w) ?_;refine⟨⟨_,rfl⟩,?_,rfl,rfl,rfl,go,λ_ _ _=>rfl⟩;have e:Et []=[]:=by simp[Et]
  rw[e];exact cQ _ _ _ _
 .rw[Qci] at ht;refine(Tryz.slices_Sort_int g 0 cap zs w (holds_of_blockI hh ht) (Qy.1 hh).1 Mx).mono ?_;rintro e w' ⟨rfl,n,os,rfl⟩;have h1:=ownsRow_sortedI (n:=n) (os:=os) (ss:=zs) (ts:=Et zs) (zD zs) hb hh hn hm zbq;refine⟨⟨_,rfl⟩,?_,grownBy_sortedI _⟩;rw[aB,zD];exact h1
def DQ(w:Wo)(gf Bx:Nat)(f:Int->Option V)(P0:Wo->Prop)(hF:Fence.wide.fn gf)(eg:∀args w,(callFunc gf args).run prog w= .ok (.enter gf args) w)(hI:IY gf Bx f P0)(j8:Bx<w)(hP:∀W,ci w W->P0 W)(hlen:∀pre x,OkK f pre x->pre.length<=5000):
  Calls prog 100 #[.func (.func gf) #[] #[Bx]] w λe w' =>∃v pre,e= .returned v/\sL f pre/\aB w' w 3 .i64 v pre/\ci w w' :=by
 have HA:=aa (xt w gf Bx f P0 hF eg hI j8 hP hlen);clear hF eg hI j8 hP hlen;go_in;go_wp2_with(go_at_call 170;refine HA.o.mono ?_;rintro e W1 ⟨v,pre,rfl,hd,ho,hb⟩;obtain⟨D1,O1,B1⟩:=qC hd ho hb;clear hd ho hb);go_ret;exact⟨v,pre,rfl,D1.o,O1.o,B1.o⟩
def FC(w:Wo)(gf Bx:Nat)(f:Int->Option V)(P0:Wo->Prop)(hF:Fence.wide.fn gf)(eg:∀args w,(callFunc gf args).run prog w= .ok (.enter gf args) w)(hI:IY gf Bx f P0)(j8:Bx<w)(hP:∀W,ci w W->P0 W)(hlen:∀pre x,OkK f pre x->pre.length<=5000)(kV:∀pre,sL f pre->pre.length<=5000):
  Calls prog 37 #[.func (.func gf) #[] #[Bx]] w λe w' =>∃v pre,e= .returned v/\sL f pre/\aB w' w 3 .i64 v (Et pre)/\ci w w' :=by
 have HC:=aa (DQ w gf Bx f P0 hF eg hI j8 hP hlen);have HL:=aa kV;clear hF eg hI j8 hP hlen kV;go_in;go_wp2_with(first
  |(go_at_call 100;refine HC.o.mono ?_;rintro e W1 ⟨v,pre,rfl,hd,ho,hb⟩;obtain⟨D1,O1,B1⟩:=qC hd ho hb;clear hd ho hb)
  |(go_at_call 101;refine(Kz W1 w v pre O1.o (Qh (HL.o pre D1.o) Fd)).mono ?_;rintro e W2 ⟨⟨u,rfl⟩,ho,hg⟩;have O2:=aa ho;have G2:=aa hg;clear ho hg))
 go_ret;refine⟨v,pre,rfl,D1.o,O2.o,B1.o.grown G2.o B1.o.size ?_⟩;intro k hk;exact(Xr O1.o k hk).1
def PI(l:Fr):(Et l).Pairwise (·<=·):=by have h:=List.pairwise_mergeSort (le:=λx y:Int=>decide (x<=y)) (λa b c h1 h2=>by simp at*;omega) (λa b=>BY) l;exact h.imp λh=>by simpa using h
def I7(l:Fr)(x:Int):x∈Et l↔x∈l:=List.mem_mergeSort
def oZ:∀(l m:Fr),l.Pairwise (·<·)->m.Pairwise (·<·)->(∀x,x∈l↔x∈m)->l=m
 |[],[],_,_,_=>rfl
 |[],b::m,_,_,h=>absurd ((h b).2 (Qm ..)) Sv
 |a::l,[],_,_,h=>absurd ((h a).1 (Qm ..)) Sv
 |a::l,b::m,hl,hm,h=>by
  obtain⟨h1,h2⟩:=List.pairwise_cons.1 hl;obtain⟨k1,k2⟩:=List.pairwise_cons.1 hm;have SQ:a=b:=by
   obtain e|e:=QA.1 ((h a).1 (Qm ..))
   .exact e
   .rcases QA.1 ((h b).2 (Qm ..)) with e' |e'
    .exact e'.symm
    .have:=h1 b e';have:=k1 a e;omega
  subst SQ;congr 1;refine oZ l m h2 k2 λx=>⟨λhx=> ?_,λhx=> ?_⟩
  .rcases QA.1 ((h x).1 (Qs _ hx)) with e|e
   .subst e;have:=h1 x hx;omega
   .exact e
  .rcases QA.1 ((h x).2 (Qs _ hx)) with e|e
   .subst e;have:=k1 x hx;omega
   .exact e
def gJ{V:Type}(l:List (Option V)):List Int:=((range l.length).filter λb=>(l.getD b none).isSome).map λb:Nat=>(b:Int)
def vJ(l:List (Option V))(x:Int):x∈gJ l↔(du l x).isSome=true:=by
 unfold gJ du;rw[QU];constructor
 .rintro⟨b,hb,rfl⟩;obtain⟨h1,h2⟩:=Qia.1 hb;rw[Xo Mx,Xt];exact h2
 .intro h;split at h
  .rename_i h0
   refine⟨x.toNat,Qia.2 ⟨Zm.2 ?_,h⟩,Mx⟩;obtain h1|h1:=Qae x.toNat l.length
   .exact h1
   .rw[Qe,QQ h1] at h;simp at h
  .simp at h
def sP(l:List (Option V)):(gJ l).Pairwise (·<·):=by rw[gJ,Qhf];refine(List.pairwise_lt_range (n:=l.length)).filter _ |>.imp ?_;intro a b h;omega
def Ky(l:Fr)(h:l.Nodup):(Et l).Pairwise (·<·):=by have h1:=PI l;have h2:(Et l).Nodup:=(List.mergeSort_perm l _).nodup_iff.2 h;have h3:=h1.and h2;exact h3.imp λ⟨a,b⟩=>by omega
def PJ(l:List (Option V))(pre:Fr)(h:sL (du l) pre):Et pre=gJ l:=
 oZ _ _ (Ky _ h.1) (sP l) λx=>by rw[I7,h.2,vJ]
def RE(l:List (Option V))(pre:Fr)(hn:pre.Nodup)(h:∀x∈pre,(du l x).isSome=true):pre.length<=l.length:=by have h1:(Et pre).length<=(gJ l).length:=Qbz ((List.mergeSort_perm pre _).nodup_iff.2 hn) λx hx=>(vJ l x).2 (h x ((I7 pre x).1 hx));rw[zD] at h1;refine Qh h1 ?_;unfold gJ;rw[Qq];exact Qh (Qby _ _) Sv
def Gl(m s Bx:Nat)(f:Int->Option Int):IY 166 Bx f (λW=>MG uj W m f s/\W.cell? Bx=some (.map (some m))):=
 λn l n0 J W hn jU j8 hJ hY hP h0=>RF n hn l n0 Bx m s f J W jU j8 hJ hY hP.2 hP.1 h0
def DR(w:Wo)(tb cb mb:Nat)(t:aE)(h:bf w tb cb mb t):
  Calls prog 34 #[tb] w λe w' =>∃v,e= .returned v/\aB w' w 3 .i64 v (gJ t.kept)/\ci w w' :=by
 have x1:=h.x1;have HK:=aa (Lu w mb);have⟨W1,aW⟩:=eX (w.alloc (.cells #[.map (some mb)] 172));have⟨Bx,j8⟩:=eX w.heap.size;rw[<-aW,<-j8] at HK;have B1:Af (ci w W1):=aW▸(aF _ _);have K1:Boxed W1 Bx 172 (.map (some mb)):=by rw[aW,j8];exact Boxed.new w _ _
 have T1:=h.on B1.o;have hl:t.kept.length<=4096:=h.ok.J0▸h.ok.n1;have hlen:∀pre:List Int,pre.Nodup->(∀x∈pre,(du t.kept x).isSome=true)->pre.length<=5000:=λpre h1 h2=>Qh (RE _ _ h1 h2) Mx
 have HS:=aa (FC W1 166 Bx (du t.kept) _ trivial (enters_of func166 KJ rfl) (Gl mb (nS t.kept) Bx (du t.kept)) K1.lt
  (λW hW=>⟨T1.kept.on hW,(hW.cell (p:=⟨Bx,0,none⟩) K1.lt).trans K1.cell⟩) (λpre x hx=>hlen pre hx.2.1 hx.2.2) (λpre hd=>hlen pre hd.1 (λx hx=>(hd.2 x).1 hx)))
 clear hlen hl T1 K1 aW j8 h;go_in;go_wp2_with(first
  |(go_at_call 94;refine HK.o.mono ?_;rintro e W2 ⟨rfl,rfl⟩)
  |(go_at_call 37;refine HS.o.mono ?_;rintro e W3 ⟨v,pre,rfl,hd,ho,hb⟩;obtain⟨D3,O3,B3⟩:=qC hd ho hb;clear hd ho hb))
 go_ret;refine⟨v,rfl,?_,Pd B1.o B3.o⟩;have h1:=O3.o;rw[PJ _ _ D3.o] at h1;exact⟨h1.1,h1.2.imp id (λ⟨g,cap,cur,a,b,c⟩=>⟨g,cap,cur,a,Qh B1.o.size b,c⟩)⟩
end
section
variable {b base n sz : Nat}{v : Va}{xs : List Int}
def Rw(w:Wo)(g:Nat)(e:Fy)(cs:Ox):Prop:=∃cur:Array Va,w.heap[g]? =some (.cells cur e (0,0))/\cur.toList.take cs.length=cs
section
variable {w w' : Wo}{g : Nat}{e : TypeId}{cs : List Va}
def Rw.lt(h:Rw w g e cs):g<w:=by obtain⟨cur,h0,_⟩:=h;exact(Qy.1 h0).1
def Rw.aQ(h:Rw w g e cs)(hb:w'.heap[g]? =w.heap[g]?):Rw w' g e cs:=by obtain⟨cur,h0,h1⟩:=h;exact⟨cur,hb.trans h0,h1⟩
def Rw.on(h:Rw w g e cs)(hb:ci w w'):Rw w' g e cs:=h.aQ (hb.block g h.lt)
def Rw.aL{S:FV}(h:Rw w g e cs)(hc:aG S w w')(hS:¬S g):Rw w' g e cs:=h.aQ (hc.block g h.lt hS)
def Rw.az(h:Rw w g e cs){p:Addr}(hp:g≠p.block)(u:Va):Rw (w.setCell p u) g e cs:=h.aQ (Xl _ _ _ _ hp)
def aq.rw(h:aq w g e cs):Rw w g e cs:=⟨_,h,Sv⟩
def Rw.cell(h:Rw w g e cs){j:Nat}{u:Va}(hj:cs[j]? =some u):w.cell? (an g j)=some u:=by
 obtain⟨cur,h0,h1⟩:=h;rw[Qen w g j cur _ _ h0];rw[<-h1,Ze] at hj;split at hj
 .simpa using hj
 .cases hj
def Rw.free(h:Rw w g e cs)(j:Nat):w.frozen? (an g j)=false:=by obtain⟨cur,h0,_⟩:=h;simp[World.frozen?,h0]
def Rw.set(h:Rw w g e cs)(j:Nat)(u:Va):Rw (w.setCell (an g j) u) g e (cs.set j u):=by
 obtain⟨cur,h0,h1⟩:=h;have aJ:=(Qy.1 h0).1;have h' :w.heap[g]= .cells cur e (0,0):=zcV;refine⟨cur.setIfInBounds j u,?_,?_⟩
 .exact zeu
 .rw[Qfd,Zy,Qet,h1]
def Rw.row(h:Rw w g e cs):Row w w g 0 cs:=⟨h.lt,λj u hu=>by rw[QR];exact h.cell hu⟩
def Rw.sl(h:Rw w g e cs){c:Nat}(hl:cs.length=n*sz)(hc:n<=c)(hm:c<=maxLen):Sl w w sz (el g 0 n c) n cs:=kT hl hc hm h.row
def rK(h:w.ownsRow base e sz v n cs)(hn:0<n):∃g c,v= el g 0 n c/\base<=g/\n<=c/\c<=maxLen/\Rw w g e cs:=by
 obtain⟨hl,⟨rfl,rfl⟩|⟨g,cap,cur,rfl,hb,hh,hn,hm,hs,ht⟩⟩:=h
 .omega
 .exact⟨g,cap,rfl,hb,hn,hm,cur,hh,hl▸ht⟩
end
def Rw.ne{w:Wo}{a:Nat}{e e' :Fy}{cs ks :Ox}(h:Rw w a e cs)(k:aq w b e' ks)(he:e≠e'):a≠b:=by rintro rfl;obtain⟨cur,h0,_⟩:=h;have h1:=Qgg (Eq.symm h0) k;injection h1 with h2;injection h2 with h3 h4;exact he h4
structure NK(k:IntKind) where
 st:TypeId
 et:TypeId
 bytes:Nat
 ht:prog.underlying st=some (.slice et)
 hi:(prog.info? et).map (λi=>(i.zero,i.size,i.bytes))=some (some (.int k 0),1,bytes)
 hb:bytes<=8
@[reducible] def NKi:NK .i64:=⟨53,3,8,underlying53,iE,Fd⟩
@[reducible] def NKw:NK .u16:=⟨64,30,2,underlying64,CI,Fd⟩
section
variable {k : IntKind}(K : NK k){P : Program}{ops : Array Oper}{w : Wo}{Q : Exit -> Act -> Wo -> Prop}{a : Act}{rest : List Oper}{dst : Option Tmp}{os ox : Operand}{ty : TypeId}{pos : String}{after : Array Edge}
def wl_appNs(base:Nat)(v:Va)(xs:Fr)(bN:aB w base K.et k v xs){B:Nat}(vx:Va)(ys:Fr)(hx:Ns w B k vx ys)(hl:xs.length+ys.length<=1000000)(ey:base<=w)(hs:a.eval os=v)(AM:a.eval ox=vx)
  (hK:∀v' w',aB w' base K.et k v' (xs++ys)->w.grownBy w' v.ownBlock->wpList prog ops Q rest (a.put dst v') w'):
  wpList prog ops Q (⟨dst,.call {callee:= .builtin .append,args:= #[os,ox],argTypes:= #[K.st,K.st]},ty,pos,after,none⟩::rest) a w:=by
 refine wl_append base K.st K.et (.int k 0) 1 K.bytes K.ht K.hi rfl Fd v xs.length _ bN vx ys.length _ hx (dW k ys) Do ?_ ey hs AM ?_
 .have:=K.hb;exact Qh (Nat.mul_le_mul hl this) Fd
 .intro v' w' h1 h2;refine hK v' w' ?_ h2;rw[aB,Qo,QL];exact h1
def wl_app1(base:Nat)(v:Va)(xs:Fr)(bN:aB w base K.et k v xs)(g:Nat)(x:Int)(hx:aq w g K.et [.int k x])(hl:xs.length<=100000)(ey:base<=w)(hs:a.eval os=v)(AM:a.eval ox= el g 0 1 1)
  (hK:∀v' w',aB w' base K.et k v' (xs++[x])->w.grownBy w' v.ownBlock->wpList prog ops Q rest (a.put dst v') w'):
  wpList prog ops Q (⟨dst,.call {callee:= .builtin .append,args:= #[os,ox],argTypes:= #[K.st,K.st]},ty,pos,after,none⟩::rest) a w:=by
 refine wl_appNs (K:=K) base v xs bN (B:=w.heap.size) _ [x] ?_ BY ey hs AM hK;exact hx.rw.sl (n:=1) (sz:=1) rfl go Fd
end
def aB.ns{w:Wo}{e:Fy}{k:IntKind}(h:aB w base e k v xs):Ns w w k v xs:=h.sl
def aB.low{w:Wo}{b' :Nat}{e:Fy}{k:IntKind}(h:aB w b e k v xs)(hb:b'<=b):aB w b' e k v xs:=fB h hb
def Below.app{w0 w w' :Wo}{e:Fy}{k:IntKind}(h:Below n w0 w)(ho:aB w base e k v xs)(hb:n<=base)(hs:n<=w)(hg:w.grownBy w' v.ownBlock):Below n w0 w' :=
 h.grown hg hs λj hj=>Qh hb (Xr ho j hj).1
end
def iX(tb first next:Nat):List Va:=[.pointer (some ⟨tb,0,none⟩),.int .i64 first,.int .i64 next,.int .i64 0]
def yp(w:Wo)(pb tb first next:Nat)(h:aq w pb 131 (iX tb first next)):
  Calls prog 60 #[li pb] w (iF false λw' =>w=w') :=by
 have x0:=h.j0;clear h;go_in;go_wp2;exact vl
def Cw(w:Wo)(tb n first:Nat)(A:GB)(c:Nat)(h:w.cell? tb=some (am A n c))(hn:0<n)(hf:first<=n):
  Calls prog 48 #[li tb,ac first] w λe w' =>∃pb,e= .returned (.tuple #[li pb,ac 0])/\w<=pb/\aq w' pb 131 (iX tb first first)/\ci w w' :=by
 have HB:=aa (cn w tb n A c h);have h1:((n:Int)==0)=false:=Xc Mx;have h2:¬(first:Int)<0:=Mx;have h3:¬(n:Int)<first:=Mx;clear h hn hf;go_in;go_wp2_with(go_at_call 63;refine HB.o.mono ?_;rintro e W2 ⟨rfl,rfl⟩);go_ret2;exact⟨_,rfl,go,ar w [_,_,_,_] _,aF _ _⟩
def sW(p:Nat->Bool)(k:Nat):(range (k+1)).countP p=(range k).countP p+if p k then 1 else 0:=by rw[Qbd,Qcd];simp[Qai]
def abQ(fr:Int)(p:Nat->Bool)(k:Nat)(h:p k=true):fr - ((range (k+1)).countP p:Nat)=fr - ((range k).countP p:Nat) - 1:=by
 rw[sW,h]
 push_cast
 simp only[Qdx];omega
def abR(fr:Int)(p:Nat->Bool)(k:Nat)(h:p k=false):fr - ((range (k+1)).countP p:Nat)=fr - ((range k).countP p:Nat):=by
 rw[sW,h]
 push_cast
 simp
def xY(w:Wo)(pb tb cb mb first next:Nat)(t:aE)(hp:aq w pb 131 (iX tb first next))(h:bf w tb cb mb t)(hf:first<=t.len):
  Calls prog 18 #[li pb] w (iF (ac (t.room first)) λw' =>w=w') :=by
 obtain⟨x0,x1⟩:=gh hp;obtain⟨HN,HF,HT,Hfr⟩:=rx (yp w pb tb first next hp) (LJ w tb cb mb t h) (λb=>yC w tb cb mb t h b) h.ok.frees_le;have Hn:Af (first<=4096):=by have:=h.ok.n1;show first<=4096;omega
 clear hp h hf;go_in;go_wp2_with(first|(go_at_call 60;refine PP HN.o ?_)|(go_at_call 61;refine PP HF.o ?_));clear HN HF;go_loop [16,3] (λi n=>∃k:Nat,k<=first/\i= ac k/\n= ac (t.cY - ((range k).countP λb=>t.free b))) (λi _=>first - (intOf i).toNat)
 .exact⟨0,lm,rfl,Sv⟩
 .obtain⟨k,hk,rfl,rfl⟩:=hrel;by_cases aJ:k<first
  .have h1:(k:Int)<first:=(by omega);have fp:wrap64 ((k:Int)+1)=(k:Int)+1:=At;have HTk:=aa (HT.o k);have hc:=mD (λb=>t.free b) k;have hw:wrap64 (t.cY - ((range k).countP (λb=>t.free b):Int) - 1)=t.cY - ((range k).countP (λb=>t.free b):Int) - 1:=(by unfold wrap64;have:=Hfr.o;have:=Hn.o;omega);have eu:=aa fp;obtain⟨q,hq⟩:∃q:Int,q=t.cY - ((range k).countP (λb=>t.free b):Nat):=⟨_,rfl⟩;rw[<-hq] at hw|-;clear hc hk;change Af _ at aJ hq;cases wB:t.free k with
   |true=>
    have JR:=aa (abQ t.cY (λb=>t.free b) k wB);rw[wB] at HTk;clear wB;go_wp2_with(go_at_call 62;refine PP HTk.o ?_);go_round
    .exact⟨k+1,aJ.o,xh,by rw[JR.o,<-hq.o,hw]⟩
    .exact zdX
   |false=>
    have JR:=aa (abR t.cY (λb=>t.free b) k wB);rw[wB] at HTk;clear wB;go_wp2_with(go_at_call 62;refine PP HTk.o ?_);go_round
    .exact⟨k+1,aJ.o,xh,by rw[JR.o,<-hq.o]⟩
    .exact zdX
  .obtain rfl:k=first:=(by omega);go_wp2;exact vl
def kh(w:Wo)(b j:Nat)(u:Va):aG (λx=>x=b) w (w.setCell (an b j) u):=aG.setCell (S:=λx=>x=b) (aG.refl _ w) (λ_=>rfl) u
def Ak(w:Wo)(b j:Nat)(u:Va):aG (λx=>x=b) w (w.drew.setCell (an b j) u):=aG.setCell (S:=λx=>x=b) (aG.refl _ w).drew (λ_=>rfl) u
def yG(p:Nat->Bool)(a n b m:Nat){k:Nat}(h1:∀x,a<=x->x<a+n->p x=true->x=k\/k<x)(hk:p k=true)(si:a<=k/\k<a+n):
  (List.range' a n++List.range' b m).find? p=some k:=by
 rw[Qhg];have:(List.range' a n).find? p=some k:=by
  rw[List.find?_eq_some_iff_getElem];refine⟨hk,k - a,by rw[List.length_range'];omega,by rw[List.getElem_range'];omega,λj hj=> ?_⟩;rw[List.getElem_range'];cases hp:p (a+1*j) with
  |false=>rfl
  |true=>have:=h1 (a+1*j) Mx Mx hp;omega
 rw[this];rfl
def pP(p:Nat->Bool)(a n b m:Nat)(h0:∀x,a<=x->x<a+n->p x=false):(List.range' a n++List.range' b m).find? p=(List.range' b m++List.range' 0 0).find? p:=by
 rw[Qhg];have:(List.range' a n).find? p=none:=by rw[Qfi];intro x hx;obtain⟨h1,h2⟩:=List.mem_range'_1.1 hx;rw[h0 x h1 h2];simp
 rw[this];simp
def qK(w:Wo)(pb tb cb mb first next:Nat)(t:aE)(hp:aq w pb 131 (iX tb first next))(h:bf w tb cb mb t)(hf:first<=next)(hn:next<=t.len):
  Calls prog 124 #[pb] w (iF (.tuple #[ac (t.take first next).1,ac (t.take first next).2.1]) λw' =>bf w' tb cb mb (t.take first next).2.2.1/\aq w' pb 131 (iX tb first (t.take first next).2.2.2)/\aG (λx=>x=pb\/TS tb cb mb x) w w') :=by
 obtain⟨x0,x1,x2⟩:=ra hp;obtain⟨HN,HB,Yd,HBd,HT,H,Hp⟩:=un (yp w pb tb first next hp) (λW (hW:ci w W)=>cn W tb t.len _ _ (h.on hW).x0) (cn w tb t.len _ _ h.x0) (cn w.drew tb t.len _ _ h.x0) (λW (hW:ci w W) b=>yC W tb cb mb t (h.on hW) b) h hp;have Hn:=iJ hf hn h.ok.n1;clear hp h hf hn;go_in;go_wp2;go_step3;go_wp2_with(go_at_call 60;refine PP HN.o ?_);go_step3;go_wp2;clear HN;go_region_held3 (λW=>W.cell? pb=some tb/\W.cell? (an pb 1)=some (ac first)/\W.cell? (an pb 2)=some (ac next)) (first|with_reducible exact⟨x0,x1,x2⟩|go_keep)
  (first
   |((go_at_call 63);(with_reducible refine Yd.o.mono ?_);rintro e W2 ⟨rfl,rfl⟩)
   |((go_at_call 63);(with_reducible refine HBd.o.mono ?_);rintro e W2 ⟨rfl,rfl⟩))
 clear Yd HBd;have⟨W4,j7⟩:=eX ((w.alloc (.cells #[ac next,ac t.len,ac first,ac next] 281)).drew);have B4:Af (ci w W4):=by rw[j7];exact(aF _ _).drew
 have R4:Af (aq W4 w 281 [ac next,ac t.len,ac first,ac next]):=by show aq _ _ _ _;rw[j7];exact ar w _ _
 rw[<-j7];clear j7 x0 x1 x2;go_upto_block 0 with fail;go_cut [4] from 5 to 50 (λv wx=>∃b:Int,v= ac b/\Af (((b= -1/\t.find first next=none)\/∃k:Nat,b=k/\k<t.len/\t.free k=true/\t.find first next=some k)/\ci w wx))
 .go_wp2;go_loopg [31,4] 2 (λg j v wr=>∃k:Nat,k+g=2/\j= ac k/\v= ac (-1)/\Af (aq wr w 281 [ac next,ac t.len,ac first,ac next]/\ci w wr/\(1<=k->∀x,next<=x->x<t.len->t.free x=false)/\(2<=k->∀x,first<=x->x<next->t.free x=false)))
  .exact⟨0,rfl,rfl,rfl,R4.o,B4.o,λh=>absurd h Fd,λh=>absurd h Fd⟩
  .obtain⟨k,hkg,rfl,rfl,HR⟩:=hrel;cases gk with
   |zero=>
    obtain rfl:k=2:=hkg;go_wp2;go_meet
    .refine⟨-1,rfl,.inl ⟨rfl,?_⟩,HR.p2⟩;rw[aE.find,pP _ _ _ _ _ (λx h1 h2=>HR.p3 Fd x h1 wl),pP _ _ _ _ _ (λx h1 h2=>HR.q3 Fd x h1 wl)];rfl
   |succ g=>
    cases g with
    |zero=>
     obtain rfl:k=1:=Mx;obtain⟨-,-,p0,p1⟩:=mm HR.p1;go_upto_block 2 with fail;obtain⟨W6,jc,-,Z4⟩:=nW wr [ac first,ac next] 281;have⟨gb,EA⟩:=eX wr.heap.size;have G6:Af (aq W6 gb 281 [ac first,ac next]):=zbL;have B6:=aa (Pd HR.p2 Z4);have R6:=aa (HR.p1.on Z4);rw[<-jc,<-EA];clear jc EA Z4 p0 p1;go_wp2;go_loopg [7,4] (next - first) (λg b v wx=>∃x:Nat,x+g=next/\b= ac x/\v= ac (-1)/\Af (wx=W6/\first<=x/\∀y,first<=y->y<x->t.free y=false))
     .exact⟨first,wl,rfl,rfl,rfl,go,λy h1 h2=>absurd h2 (XV.2 h1)⟩
     .obtain⟨x,JE,rfl,rfl,HX⟩:=hrel;have⟨W7,Eh⟩:=eX wr;have jc:=HX.p1;rw[<-Eh] at jc|-;subst jc;clear Eh;have p1:=G6.o.j1;cases gk with
      |zero=>
       obtain rfl:x=next:=JE;go_wp2;go_roundg 0
       case measure=>decide
       .refine⟨1+1,Mx,zac,rfl,R6.o,B6.o,?_,?_⟩
        .intro _;exact HR.p3 Fd
        .intro h2;exact λy h1 h3=>HX.q2 y h1 h3
      |succ g' =>
       have aJ:(x:Int)<next:=Mx;have x0:=(B6.o.cell (p:=ol pb) Hp.o.lt).trans (Hp.o.j0);have Ui:=aa (HT.o W7 B6.o x);have Ue:=aa JE;have fp:wrap64 ((x:Int)+1)=(x:Int)+1:=At;clear JE;cases wB:t.free x with
       |true=>
        have JR:=aa wB;rw[wB] at Ui;clear wB;go_wp2_with(go_at_call 62;refine PP Ui.o ?_);go_meet
        .refine⟨x,rfl,.inr ⟨x,rfl,zaZ,JR.o,?_⟩,B6.o⟩;rw[aE.find,pP _ _ _ _ _ (λy h1 h2=>HR.p3 Fd y h1 wl)];refine yG _ _ _ _ _ (λy h1 h2 hp=> ?_) JR.o ⟨HX.p2,zaZ⟩;obtain h|h|h:=Qbt y x
         .rw[HX.q2 y h1 h] at hp;cases hp
         .exact .inl h
         .exact .inr h
       |false=>
        have JR:=aa wB;rw[wB] at Ui;clear wB;go_wp2_with(go_at_call 62;refine PP Ui.o ?_);go_roundg g'
        case measure=>exact XL _
        .refine⟨x+1,by have:=Ue.o;omega,by rw[fp];rfl,rfl,rfl,XK HX.p2,λy h1 h2=> ?_⟩;by_cases JD:y=x
         .subst JD;exact JR.o
         .exact HX.q2 y h1 Mx
    |succ g=>
     obtain rfl:g=0:=Mx;obtain rfl:k=0:=Mx;obtain⟨p0,p1⟩:=gh HR.p1;go_upto_block 2 with fail;obtain⟨W6,jc,-,Z4⟩:=nW wr [ac next,ac t.len] 281;have⟨gb,EA⟩:=eX wr.heap.size;have G6:Af (aq W6 gb 281 [ac next,ac t.len]):=zbL;have B6:=aa (Pd HR.p2 Z4);have R6:=aa (HR.p1.on Z4);rw[<-jc,<-EA];clear jc EA Z4 p0 p1;go_wp2;go_loopg [7,4] (t.len - next) (λg b v wx=>∃x:Nat,x+g=t.len/\b= ac x/\v= ac (-1)/\Af (wx=W6/\next<=x/\∀y,next<=y->y<x->t.free y=false))
     .exact⟨next,wl,rfl,rfl,rfl,go,λy h1 h2=>absurd h2 (XV.2 h1)⟩
     .obtain⟨x,JE,rfl,rfl,HX⟩:=hrel;have⟨W7,Eh⟩:=eX wr;have jc:=HX.p1;rw[<-Eh] at jc|-;subst jc;clear Eh;have p1:=G6.o.j1;cases gk with
      |zero=>
       obtain rfl:x=t.len:=JE;go_wp2;go_roundg 1
       case measure=>decide
       .refine⟨0+1,Mx,zac,rfl,R6.o,B6.o,?_,?_⟩
        .intro _;exact λy h1 h3=>HX.q2 y h1 h3
        .intro h2;exact absurd h2 Fd
      |succ g' =>
       have aJ:(x:Int)<t.len:=Mx;have x0:=(B6.o.cell (p:=ol pb) Hp.o.lt).trans (Hp.o.j0);have Ui:=aa (HT.o W7 B6.o x);have Ue:=aa JE;have fp:wrap64 ((x:Int)+1)=(x:Int)+1:=At;clear JE;cases wB:t.free x with
       |true=>
        have JR:=aa wB;rw[wB] at Ui;clear wB;go_wp2_with(go_at_call 62;refine PP Ui.o ?_);go_meet
        .refine⟨x,rfl,.inr ⟨x,rfl,zaZ,JR.o,?_⟩,B6.o⟩;unfold aE.find;refine yG _ _ _ _ _ (λy h1 h2 hp=> ?_) JR.o ⟨HX.p2,zaZ⟩;obtain h|h|h:=Qbt y x
         .rw[HX.q2 y h1 h] at hp;cases hp
         .exact .inl h
         .exact .inr h
       |false=>
        have JR:=aa wB;rw[wB] at Ui;clear wB;go_wp2_with(go_at_call 62;refine PP Ui.o ?_);go_roundg g'
        case measure=>exact XL _
        .refine⟨x+1,by have:=Ue.o;omega,by rw[fp];rfl,rfl,rfl,XK HX.p2,λy h1 h2=> ?_⟩;by_cases JD:y=x
         .subst JD;exact JR.o
         .exact HX.q2 y h1 Mx
 .obtain⟨b,rfl,HC⟩:=hcut;have⟨W,hW⟩:=eX wc;rw[<-hW] at HC|-;clear hW;have AL:=aa HC.q1;obtain⟨h1,-⟩:=HC.o;clear HC;rcases h1 with⟨rfl,YC⟩|⟨k,rfl,hk,TE,Yx⟩
  .have Hno:=aa YC;clear YC;go_wp2;(try rw[Qv]);go_ret2;rw[aE.take,Hno.o];exact⟨rfl,H.o.on AL.o,Hp.o.on AL.o,aG.aZ AL.o⟩
  .have hup:t.up k=(0,t.set k (t.get k+1)):=(by unfold aE.free at TE;simp at TE;rw[aE.up,Xd Mx,Xd Mx]);have ZD:t.take first next=((k:Int),0,t.set k (t.get k+1),if k+1=t.len then first else k+1):=(by rw[aE.take,Yx]);have HU:=aa (U2 W tb cb mb t (H.o.on AL.o) k);rw[hup] at HU;have⟨t',ht'⟩:=eX (t.set k (t.get k+1));rw[<-ht'] at HU ZD;have Hln:Af (t'.len=t.len):=(by show _=_;rw[ht',aE.tU]);have tH:=aa ZD;have Hk:=dK hk H.o.ok.n1;have SK:¬(k:Int)<0:=Mx;have x0:=(Hp.o.on AL.o).j0;have fq:=iJ (Hp.o.ne H.o.own Fd) (Hp.o.ne H.o.counts Fd) (Hp.o.bS H.o.kept);have fp:wrap64 ((k:Int)+1)=(k:Int)+1:=(by unfold wrap64;have:=Hk.o;omega);clear hup ht' Yx ZD TE hk HT HB;go_upto_region 16 with(go_at_call 190;refine rY HU.o λW5 t5 c5=> ?_;have T5:=aa t5;have C5:=aa c5;clear t5 c5);have P5:=aa ((Hp.o.on AL.o).aL C5.o (by unfold TS;have:=fq.o;omega));obtain⟨x0,x1,x2⟩:=ra P5.o;have f2:=P5.o.free 2;have P6:=aa (P5.o.set 2 (ac ((k:Int)+1)));clear HU;go_wp2;have⟨W6,jc⟩:=eX (W5.setCell (an pb 2) (ac ((k:Int)+1)));have C6:Af (aG (λx=>x=pb) W5 W6):=(by show aG _ _ _;rw[jc];exact kh _ _ _ _);have T6:=aa (T5.o.aL C6.o (Xm fq.p1) (Xm fq.p2) (Xm fq.q2));rw[<-jc] at P6|-;have ZR:=T6.o.x0;rw[Hln.o] at ZR;have HB6:=aa (cn W6 tb t.len _ _ ZR);have ahn:=aa (cn W6.drew tb t.len _ _ ZR);obtain⟨z0,z1,z2⟩:=ra P6.o;have zf:=P6.o.free 2;clear jc x0 x1 x2 f2 ZR;go_region_held3 (λW=>W.cell? pb=some tb/\W.cell? (an pb 2)=some (ac ((k:Int)+1))) (first|with_reducible exact⟨z0,z2⟩|go_keep)
    (first
     |((go_at_call 63);(with_reducible refine HB6.o.mono ?_);rintro e W2 ⟨rfl,rfl⟩)
     |((go_at_call 63);(with_reducible refine ahn.o.mono ?_);rintro e W2 ⟨rfl,rfl⟩))
   clear HB6 ahn;have hC:Af (∀W,aG (λx=>x=pb) W6 W->aG (λx=>x=pb\/TS tb cb mb x) w W):=λWf hc=>(((aG.aZ AL.o).trans (C5.o.mono λx _ h=> .inr h)).trans (C6.o.mono λx _ h=> .inl h)).trans (hc.mono λx _ h=> .inl h);by_cases cH:k+1=t.len
   .have hq:(((k:Int)+1)==(t.len:Int))=true:=(by rw[Qbq];omega);have NJ:=aa cH;clear cH;go_wp2;(try rw[Qv]);go_ret2;have c7:aG (λx=>x=pb) W6 (W6.drew.setCell (an pb 2) (ac first)):=Ak _ _ _ _;rw[tH.o,Xo NJ.o];exact⟨rfl,T6.o.aL c7 (Xm fq.p1) (Xm fq.p2) (Xm fq.q2),aq.set (w:=W6.drew) P6.o 2 _,hC.o _ c7⟩
   .have hq:=Xc Mx;have NJ:=aa cH;clear cH;go_wp2;(try rw[Qv]);go_ret2;have c7:aG (λx=>x=pb) W6 W6.drew:=(aG.refl _ W6).drew;rw[tH.o,Xd NJ.o];exact⟨rfl,T6.o.aL c7 (Xm fq.p1) (Xm fq.p2) (Xm fq.q2),P6.o,hC.o _ c7⟩
section
variable{w:Wo}{B:Nat}
def ff(n:Int)(h0:0<=n)(h1:n<=100000):0<=aR n/\aR n<=1700:=by unfold aR;split<;>omega
def Cy(w:Wo)(n:Nat)(h0:1<=n)(h1:n<=4096):Calls prog 19 #[ac n] w (iF (ac (kU n)) λw' =>w=w') :=by
 have⟨k,hk⟩:=eX (aR n);have⟨m,hm⟩:=eX (aR k);have r1:=ff n Mx Mx;have tp:=aa (dY w n Mx Mx);have r2:=ff k Mx Mx;have AJ:=aa (dY w k Mx Mx);rw[<-hk] at tp r1;rw[<-hm] at AJ r2;rw[kU,<-hk,<-hm];have g:¬(n:Int)<1:=Mx
 have hw:=trivial;obtain⟨r3,r4⟩:=r1;obtain⟨r5,r6⟩:=r2;clear hk hm h0 h1 hw;go_in;go_wp2_with(first
  |(go_at_call 30;(with_reducible refine tp.o.mono ?_);rintro e W2 ⟨rfl,rfl⟩)
  |(go_at_call 30;(with_reducible refine AJ.o.mono ?_);rintro e W2 ⟨rfl,rfl⟩))
 exact vl
def wj(l:Fr)(o k:Nat)(x:Int)(h:l[o+k]? =some x):(l.drop o).take (k+1)=(l.drop o).take k++[x]:=by rw[Qcw,Zb,h];rfl
def Yr{p k q:Nat}(h:p+k<q):q - (intOf (ac ((p:Int)+k+1))).toNat<q - (intOf (ac ((p:Int)+k))).toNat:=zaK
def GQ(w:Wo)(tb cb mb:Nat)(t:aE)(h:bf w tb cb mb t)(eL:Nat)(hp:61*eL<=t.len):
  Calls prog 109 #[tb,ac eL] w λe w' =>∃v,e= .returned v/\aB w' w 30 .u16 v (eI t eL)/\ci w w' :=by
 have⟨n,hn⟩:=eX t.len;have⟨q,hq⟩:=eX (min (61*eL+61) n);have H:=aa h;have Hn:=Ba hn (by have:=h.ok.n1;omega:n<=4096) (by omega:61*eL<=n) hq (by omega:61*eL<=q);have hm:IntKind.i64.wrap 0=0:=Fd;have g0:¬(eL:Int)<0:=Mx;have w1:wrap64 ((eL:Int)*61)=61*eL:=At;have w2:wrap64 ((eL:Int)+1)=eL+1:=At;have w3:wrap64 (((eL:Int)+1)*61)=61*eL+61:=At;have HB:=aa (λ(W:Wo) (hW:ci w W)=>cn W tb n _ _ (by rw[hn];exact(h.on hW).x0));have hpq:min (61*(eL:Int)+61) n=q:=Mx;clear h hn hq hp;go_in;go_wp2;obtain⟨p0,tA⟩:∃p0:Nat,p0=61*eL:=⟨_,rfl⟩;have e0:(61*(eL:Int))=(p0:Int):=Mx;rw[e0] at w1 w3 hpq|-;have Hp0:=aa tA;have ZN:(q:Int)<=4096:=wl;clear hm e0 tA;go_loopw [6,5] (λb v wr=>∃k:Nat,b= ac ((p0:Int)+k)/\Af (p0+k<=q/\aB wr w 30 .u16 v ((t.counts.drop p0).take k)/\ci w wr)) (λb _ _=>q - (intOf b).toNat)
 .exact⟨0,Sv,by have:=Hn.o;have:=Hp0.o;omega,cQ _ _ _ _,pi⟩
 .obtain⟨k,rfl,HR⟩:=hrel;have MV:=aa (HB.o wr HR.q2);by_cases aJ:p0+k<q
  .have hi:(p0:Int)+k<q:=(by omega);have ml:(0:Int)<=(p0:Int)+k:=Mx;have⟨x,hx⟩:=eX (t.get (p0+k));have cH:p0+k<t.len:=wl;have pf:t.counts[p0+k]? =some x:=hx▸(aE.Fk cH);have wA:=aE.ll H.o.ok (p0+k);rw[<-hx] at wA;have HG:=qH wr tb cb mb t (H.o.on HR.q2) ((p0:Int)+k);rw[Xo ml,show((p0:Int)+k).toNat=p0+k by omega,<-hx] at HG;have HGr:=aa HG;have JF:IntKind.u16.wrap x=x:=ww;have Hx:=dK pf (by rw[Qu,Zt];have:t.len=t.counts.length:=rfl;have:=Hn.o;omega:((t.counts.drop p0).take k).length<=100000);have hw4:wrap64 ((p0:Int)+k+1)=(p0:Int)+k+1:=vW
   have bj:=aa aJ;have Hw4:=aa hw4;obtain⟨A0,n0,c0,Ew⟩:=HR.p2.bu;subst Ew;obtain⟨tJ,IB,rk⟩:=qC (aB.on HR.p2 (aF wr (.cells #[pK x] 30))) (ar wr [pK x] 30) (Pd HR.q2 (aF wr (.cells #[pK x] 30)));clear hx cH pf wA HG aJ HR;go_wp2_with(first
    |(go_at_call 63;refine PP MV.o ?_)
    |(go_at_call 121;refine PP HGr.o ?_)
    |(at_builtin;(with_reducible refine wl_app1 NKw (os:= .tmp 21) (ox:= .tmp 26) w _ _ tJ.o wr x IB.o ?_ ?_ ?_ ?_ ?_);(·exact Hx.q1);(·exact rk.o.size);(·rfl);(·rfl);intro v' w' ho hg;have JW:=aa ho;have px:=aa (Below.app rk.o tJ.o go rk.o.size hg);clear ho hg w1 w2 w3 hpq JF hi ml ZN g0))
   go_roundw
   .refine⟨k+1,by first|(rw[Hw4.o];exact XF _ (Qft _ _ _))|exact XF _ (Qft _ _ _),bj.o,?_,px.o⟩;rw[wj _ _ _ _ Hx.p1];exact JW.o
   .first|(rw[Hw4.o];exact Yr bj.o)|exact Yr bj.o
  .have hk:p0+k=q:=(by have:=HR.p1;omega);have hi:¬(p0:Int)+k<q:=Mx;have e1:(t.counts.drop p0).take k=eI t eL:=by
    rw[eI,<-Hp0.o];have h1:t.len=t.counts.length:=rfl;have:=Hn.o;have:=Hp0.o;by_cases h2:k=61
    .rw[h2]
    .rw[Qj zbk,Qj zbk]
   have fF:=aa HR.q1;rw[e1] at fF;obtain⟨A0,n0,c0,Ew⟩:=fF.p1.bu;subst Ew;clear e1 HR hk aJ;go_wp2_with(go_at_call 63;refine PP MV.o ?_);exact zev
def aA{α:Type}(l:List α)(k:Nat)(x:α)(h:l[k]? =some x):l.take (k+1)=l.take k++[x]:=by rw[Qcw,h];rfl
def yo(w:Wo)(v:Va)(l:Fr)(h:Ns w w .i64 v l)(hl:l.length<=10000)(hr:∀x∈l,0<=x/\x<=65535):
  Calls prog 53 #[v] w λe w' =>∃v',e= .returned v'/\aB w' w 30 .u16 v' l/\ci w w' :=by
 obtain⟨A,c,rfl,jb,pk⟩:=h.form;have⟨n,hn⟩:=eX l.length;have H:=aa h;have Hn:=dK hn (by omega:n<=10000);have Hr:=aa hr;rw[<-hn];clear h hl hr hn jb pk;go_in;go_wp2_with fail;go_loopw [8,3] (λi v wr=>∃k:Nat,i= ac k/\Af (k<=n/\aB wr w 30 .u16 v (l.take k)/\ci w wr)) (λi _ _=>n - (intOf i).toNat)
 .exact zfl
 .obtain⟨k,rfl,HR⟩:=hrel;obtain⟨A0,n0,c0,Ew⟩:=HR.p2.bu;subst Ew;by_cases aJ:k<n
  .have bQ:k<l.length:=(by have:=Hn.o;omega);obtain⟨b,o,c',hv,-,-,hb,aH⟩:=H.o.cells Mx;cases hv;have⟨x,hx⟩:=eX (l.getD k 0);have pf:l[k]? =some x:=zag;have wA:=Hr.o x (Qi pf);have y0:wr.cell? (an b (o+k))=some (ac x):=(HR.q2.cell (p:=an b (o+k)) hb).trans (by rw[hx];exact aH k bQ);have JF:IntKind.u16.wrap x=x:=ww;have fp:wrap64 ((k:Int)+1)=(k:Int)+1:=At;have hi:(k:Int)<n:=Mx;have ml:(0:Int)<=k:=Mx;have bj:=aa aJ;have eu:=aa fp;have Hx:=dK pf (by rw[Qu];have:=Hn.o;omega:(l.take k).length<=100000);have tJ:=aa (aB.on HR.p2 (aF wr (.cells #[pK x] 30)));have IB:=aa (ar wr [pK x] 30);have rk:=aa (Pd HR.q2 (aF wr (.cells #[pK x] 30)));clear hx pf wA bQ aJ HR aH hb;go_wp2_with(at_builtin;(with_reducible refine wl_app1 NKw (os:= .tmp 12) (ox:= .tmp 15) w _ _ tJ.o wr x IB.o ?_ ?_ ?_ ?_ ?_);(·exact Hx.q1);(·exact rk.o.size);(·rfl);(·rfl);intro v' w' ho hg;have JW:=aa ho;have px:=aa (Below.app rk.o tJ.o go rk.o.size hg);clear ho hg hi ml JF);go_roundw
   .exact zfN
   .exact wn
  .have hk:k=n:=(by have:=HR.p1;omega);have hi:¬(k:Int)<n:=Mx;have e1:l.take k=l:=Qj wl;have fF:=aa HR.q1;rw[e1] at fF;clear e1 HR hk aJ;go_wp2_with fail;exact zev
def Fh{A:GB}{c:Nat}{k:IntKind}{l:Fr}(h:Ns w B k (am A l.length c) l)(i j:Nat)(wJ:i<=j)(hj:j<=l.length)(hic:i<l.length):
  ∃b o,A=some (an b o)/\Ns w B k (el b (o+i) (j - i) (c - i)) ((l.drop i).take (j - i)):=by
 obtain⟨hl,A',c',hv,hc,hm,hz,hr⟩:=h;cases hv;have hlen:((l.drop i).take (j - i)).length=j - i:=BY;obtain⟨b,o,hA,dL⟩:=hr Mx;refine⟨b,o,hA,?_⟩;rw[Ns,hlen];refine kT BY Mx Mx ⟨dL.1,λq u hu=> ?_⟩;rw[Qt,Ze] at hu;split at hu
 .rw[Zb] at hu;rw[XB];exact dL.2 _ _ (Qt▸hu)
 .simp at hu
def KY(w:Wo)(v:Va)(l:Fr)(h:Ns w w .i64 v l)(hl:l.length<=10000)(i:Nat)(hi:61*i<l.length):
  Calls prog 110 #[v,ac i] w λe w' =>(∃v',e= .returned v'/\Ns w w .i64 v' (bG l i))/\w=w' :=by
 obtain⟨A,c,rfl,jb,pk⟩:=h.form;have⟨q,hq⟩:=eX (min (61*i+61) l.length);obtain⟨b,o,rfl,hs⟩:=Fh h (61*i) q Mx Mx hi;have hp:(l.drop (61*i)).take (q - 61*i)=bG l i:=by
  unfold bG;by_cases h2:q=61*i+61
  .rw[h2,Qbe]
  .rw[Qj zbk,Qj zbk]
 rw[hp] at hs;have HS:=aa hs;have⟨n,hn⟩:=eX l.length;rw[<-hn] at jb|-;have⟨p,tA⟩:=eX (61*i);rw[<-tA] at HS;have w1:wrap64 ((i:Int)*61)=p:=vW;have w2:wrap64 ((i:Int)+1)=i+1:=vW;have w3:wrap64 (((i:Int)+1)*61)=(p:Int)+61:=vW;have hpq:min ((p:Int)+61) n=q:=Mx;have h1:(0:Int)<=p:=Mx;have h2:(p:Int)<=q:=Mx;have h3:(q:Int)<=c:=Mx;have h4:p<=q:=Mx;have h5:q<=c:=Mx;have h6:¬c=p:=Mx;exact zfc
def eT(l:List Bool):List Int:=(gG l).map λi:Nat=>(i:Int)
def sM(l:List Bool)(b:Bool):gG (l++[b])=gG l++if b then[l.length] else[]:=by
 rw[gG,Qo,ZA,Qbd,Qbh];congr 1
 .refine Qhh λi hi=> ?_;have:=Zm.1 hi;simp[Qe,QN this]
 .simp[Qdv]
def PA(l:List Bool)(k:Nat)(h:l[k]? =some true):eT (l.take (k+1))=eT (l.take k)++[(k:Int)]:=by have hk:=(Ql.1 h).1;rw[eT,aA l k _ h,sM,Xo rfl,Qu,Zh Mx,QL];rfl
def PB(l:List Bool)(k:Nat)(h:l[k]? =some false):eT (l.take (k+1))=eT (l.take k):=by unfold eT;rw[aA l k _ h,sM];simp
def Ft(l:List Bool):(eT l).length<=l.length:=by unfold eT gG;rw[Qq];exact Qh (Qby _ _) Sv
def Ts(w:Wo)(B:Nat)(v:Va)(xs:List Bool):Prop:=Sl w B 1 v xs.length (xs.map .bool)
def Ts.cells{v:Va}{xs:List Bool}(h:Ts w B v xs)(h0:0<xs.length):∃b o c,v= el b o xs.length c/\xs.length<=c/\c<=maxLen/\b<B/\∀j,j<xs.length->jp w b (o+j) (.bool (xs.getD j false)):=zeD
def xL(w:Wo)(v:Va)(l:List Bool)(h:Ts w w v l)(hl:l.length<=10000):
  Calls prog 99 #[v] w λe w' =>∃v',e= .returned v'/\aB w' w 3 .i64 v' (eT l)/\ci w w' :=by
 obtain⟨A,c,rfl,jb,pk⟩:=Sl.form h;have⟨n,hn⟩:=eX l.length;have H:=aa h;have Hn:=dK hn (by omega:n<=10000);rw[<-hn];clear h hl hn jb pk;go_in;go_wp2;go_loopw [8,3] (λi v wr=>∃k:Nat,i= ac k/\Af (k<=n/\aB wr w 3 .i64 v (eT (l.take k))/\ci w wr)) (λi _ _=>n - (intOf i).toNat)
 .exact zfl
 .obtain⟨k,rfl,HR⟩:=hrel;obtain⟨A0,n0,c0,Ew⟩:=HR.p2.bu;subst Ew;by_cases aJ:k<n
  .have bQ:k<l.length:=(by have:=Hn.o;omega);obtain⟨b,o,c',hv,-,-,hb,aH⟩:=H.o.cells Mx;cases hv;have⟨x,hx⟩:=eX (l.getD k false);have pf:l[k]? =some x:=zag;have y0:=(HR.q2.cell (p:=an b (o+k)) hb).trans (hx▸(aH k bQ));have fp:wrap64 ((k:Int)+1)=(k:Int)+1:=At;have hi:(k:Int)<n:=Mx;have ml:(0:Int)<=k:=Mx;have bj:=aa aJ;have eu:=aa fp;have Hx:Af (l[k]? =some x/\(eT (l.take k)).length<=100000):=⟨pf,Qh (Ft _) (by rw[Qu];have:=Hn.o;omega)⟩;obtain⟨tJ,IB,rk,fF⟩:=rx (aB.on HR.p2 (aF wr (.cells #[ac k] 3))) (ar wr [ac k] 3) (Pd HR.q2 (aF wr (.cells #[ac k] 3))) HR.q1;clear hx pf bQ aJ HR aH hb;cases x with
   |true=>
    go_wp2_with(at_builtin;(with_reducible refine wl_app1 NKi (os:= .tmp 14) (ox:= .tmp 16) w _ _ tJ.o wr k IB.o ?_ ?_ ?_ ?_ ?_);(·exact Hx.q1);(·exact rk.o.size);(·rfl);(·rfl);intro v' w' ho hg;have JW:=aa ho;have px:=aa (Below.app rk.o tJ.o go rk.o.size hg);clear ho hg hi ml);go_roundw
    .refine⟨k+1,xh,bj.o,?_,px.o⟩;rw[PA _ _ Hx.p1];exact JW.o
    .exact wn
   |false=>
    go_wp2;go_roundw
    .refine⟨k+1,xh,bj.o,?_,fF.q1⟩;rw[PB _ _ Hx.p1];exact fF.p1
    .exact wn
  .have hk:k=n:=(by have:=HR.p1;omega);have hi:¬(k:Int)<n:=Mx;have e1:l.take k=l:=Qj wl;have fF:=aa HR.q1;rw[e1] at fF;clear e1 HR hk aJ;go_wp2_with fail;exact zev
def RK:∃i,prog.info? 3=some i/\i.zero=some (ac 0)/\i.size=1/\i.bytes=8:=by obtain⟨i0,hi,oI,mM,xw⟩:=Qdq iE;exact⟨i0,hi,oI,mM,xw⟩
def LG(w:Wo)(n:Nat)(hn:n<=1000000):
  Calls prog 187 #[(),ac n] w λe w' =>∃v',e= .returned v'/\aB w' w 3 .i64 v' []/\ci w w' :=by
 by_cases h0:n=0
 .subst h0;go_in;go_wp2;go_ret;exact⟨_,rfl,cQ _ _ _ _,pi⟩
 .have Bu:Af (∀ty,(Builtin.append_ #[53,3] ty #[(),ac n]).run prog w= .ok (el w 0 n (grownCap w n 0 3)) (qr w.drew (Builtin.zeroCells #[ac 0] n++Builtin.zeroCells #[ac 0] (grownCap w n 0 3 - n)) 3)):=by intro ty;obtain⟨i,hi,hz,hs,hb⟩:=RK;exact Lib.run_append_nil_zeros w 53 3 ty 3 i _ .i64 .i64 underlying53 underlying3 hi hz n Mx Mx Mx zbU
  have pj:n<=grownCap w n 0 3:=grownCap_ge _ _ _ _;have hle:=aa (Qhm w n 0 3 Do);generalize AB:grownCap w n 0 3=cc at*;clear AB;have nZ:IntKind.i64.wrap (n:Int)=(n:Int):=zbS;exact zec
def NsL(w:Wo)(v:Va)(ls:List (Va×List Int)):Prop:=Sl w w 1 v ls.length (ls.map Prod.fst)/\∀p∈ls,Ns w w .i64 p.1 p.2
def iL(ls:List (Va×List Int)):Nat:=(ls.flatMap Prod.snd).length
def yu(ls:List (Va×List Int))(k:Nat)(p:Va×List Int)(h:ls[k]? =some p):iL (ls.take (k+1))=iL (ls.take k)+p.2.length:=by unfold iL;rw[aA ls k p h,QP,Qo];simp
def Jk(ls:List (Va×List Int))(k:Nat):iL (ls.take k)<=iL ls:=by
 unfold iL
 conv=>rhs;rw[<-XW k ls,QP,Qo]
 exact XM _ _
def nQ(w:Wo)(v:Va)(ls:List (Va×List Int))(h:NsL w v ls)(hl:ls.length<=10000)(ht:iL ls<=100000):
  Calls prog 120 #[v] w λe w' =>∃v',e= .returned v'/\aB w' w 3 .i64 v' (ls.flatMap Prod.snd)/\ci w w' :=by
 obtain⟨A,c,rfl,jb,pk⟩:=Sl.form h.1;have⟨n,hn⟩:=eX ls.length;have H:=aa h;have Hn:=iJ hn (by omega:n<=10000) ht;rw[<-hn];clear h hl hn jb pk ht;go_in;go_wp2;go_loop [11,3] (λi s=>∃k:Nat,k<=n/\i= ac k/\s= ac (iL (ls.take k))) (λi _=>n - (intOf i).toNat)
 .exact⟨0,lm,rfl,rfl⟩
 .obtain⟨k,hk,rfl,rfl⟩:=hrel;by_cases aJ:k<n
  .have bQ:k<ls.length:=(by have:=Hn.o;omega);obtain⟨b,o,c',hv,-,-,dL⟩:=H.p1.row Mx;cases hv;have⟨p,hp⟩:=eXa (ls[k]);have qZ:ls[k]? =some p:=hp▸(Qf bQ);obtain⟨Ap,cp,pY,-,-⟩:=(H.q1 p (Qi qZ)).form;obtain⟨pv,pl⟩:=p;have wT:pv= am Ap pl.length cp:=pY;subst wT;have y0:jp w b (o+k) (am Ap pl.length cp):=dL.2 k _ zcn;have uz:iL (ls.take (k+1))=iL (ls.take k)+pl.length:=yu ls k _ qZ;have hle:=Jk ls (k+1);have abz:=aa uz;have mW:=Hn.q2;have fp:wrap64 ((k:Int)+1)=(k:Int)+1:=At;have DZ:wrap64 ((iL (ls.take k):Int)+pl.length)=(iL (ls.take (k+1)):Int):=vW;have aa1:¬((iL (ls.take (k+1)):Nat):Int)<0:=Mx;have eu:=aa fp;have hi:(k:Int)<n:=Mx;have ml:(0:Int)<=k:=Mx;have H1:Af (∃s1,s1=iL (ls.take (k+1))):=⟨_,rfl⟩;obtain⟨s1,Ip⟩:=H1.o;rw[<-Ip] at DZ aa1;generalize iL (ls.take k)=s0 at*;clear hp qZ pY dL uz hle bQ hk mW abz H1;change Af _ at aJ Ip;go_wp2;go_round
   .exact⟨k+1,aJ.o,xh,by rw[<-Ip.o,DZ]⟩
   .exact zdX
  .have cH:k=n:=(by omega);subst cH;have e1:ls.take k=ls:=Qj wl;rw[e1];have HG:=aa (LG w (iL ls) wl);have Ht:=aa Hn.q2;have⟨tot,mW⟩:=eX (iL ls);rw[<-mW] at HG Ht|-;have aby:=aa mW.symm;clear mW;have hi:¬(k:Int)<k:=Mx;clear e1 aJ hk;go_wp2_with(go_at_call 187;refine tx HG.o λv2 W2 o2 b2=> ?_;have O2:=aa o2;have B2:=aa b2;clear o2 b2);clear HG;have HtL:Af (∀j,iL (ls.take j)<=tot):=λj=>Qh (Jk ls j) (Xg (aby.o));go_loopw [27,6] (λi v wr=>∃j:Nat,i= ac j/\Af (j<=k/\aB wr w 3 .i64 v ((ls.take j).flatMap Prod.snd)/\ci w wr)) (λi _ _=>k - (intOf i).toNat)
   .exact⟨0,rfl,lm,O2.o,B2.o⟩
   .obtain⟨j,rfl,HR⟩:=hrel;obtain⟨A0,n0,c0,Ew⟩:=HR.p2.bu;subst Ew;by_cases aJ:j<k
    .have bQ:j<ls.length:=(by have:=Hn.o;omega);obtain⟨b,o,c',hv,-,-,dL⟩:=H.p1.row Mx;cases hv;have⟨p,hp⟩:=eXa (ls[j]);have qZ:ls[j]? =some p:=hp▸(Qf bQ);have Iq:=H.q1 p (Qi qZ);obtain⟨Ap,cp,pY,-,-⟩:=Iq.form;obtain⟨pv,pl⟩:=p;have wT:pv= am Ap pl.length cp:=pY;subst wT;have y0:jp wr b (o+j) (am Ap pl.length cp):=(HR.q2.cell (p:=an b (o+j)) dL.1).trans (dL.2 j _ zcn);have fp:wrap64 ((j:Int)+1)=(j:Int)+1:=At;have hlen:((ls.take j).flatMap Prod.snd).length+pl.length<=1000000:=(by have h1:iL (ls.take (j+1))=iL (ls.take j)+pl.length:=yu ls j _ qZ;have h2:=HtL.o (j+1);have h3:=Ht.o;show iL (ls.take j)+_<=_;omega);have Ir:(ls.take (j+1)).flatMap Prod.snd=(ls.take j).flatMap Prod.snd++pl:=(by rw[aA ls j _ qZ,QP];simp);obtain⟨tJ,IB,rk,eu⟩:=rx HR.p2 (Ns.below Iq HR.q2) HR.q2 fp;have Ni:(j:Int)<k:=Mx;have ml:(0:Int)<=j:=Mx;clear hp qZ Iq pY dL bQ HR;change Af _ at aJ hlen Ir;go_wp2_with(at_builtin;(with_reducible refine wl_appNs NKi (os:= .tmp 31) (ox:= .tmp 32) w _ _ tJ.o _ _ IB.o ?_ ?_ ?_ ?_ ?_);(·exact hlen.o);(·exact rk.o.size);(·rfl);(·rfl);intro v' w' ho hg;have JW:=aa ho;have px:=aa (Below.app rk.o tJ.o go rk.o.size hg);clear ho hg Ni ml);go_roundw
     .refine⟨j+1,xh,aJ.o,?_,px.o⟩;rw[Ir.o];exact JW.o
     .exact zdX
    .have hjk:j=k:=(by have:=HR.p1;omega);have Ni:¬(j:Int)<k:=Mx;have e1:ls.take j=ls:=Qj wl;have fF:=aa HR.q1;rw[e1] at fF;clear e1 HR hjk aJ hi;go_wp2_with fail;exact zev
def Uc:MK Int Int where
 mt:=69
 kt:=3
 vt:=3
 xz:=underlying69
 keyed:=Qfq underlying3
 kv:= .int .i64
 kl:= .int .i64
 qY:=λx=>(Lit.int .i64 x).wf=true
 ir:=λx h=>Qeo underlying3 h
 Bn:=λx y h=>EQ
 sB:=λv l h=>by exact zei
 vv:= .int .i64
 Ix:=λy=> .lit (.int .i64 y)
 R:=RI .i64
 MZ:=IU .i64
 Bm:=zy .i64
 zo:=zz .i64
 zero:=0
 hz:=λw=>by kernel_rfl
def fx(seen:Fr):Int->Option Int:=λx=>if x∈seen then some 1 else none
def ym(seen:Fr)(x:Int):eM (fx seen) x 1=fx (x::seen):=by
 funext z;unfold eM fx;by_cases h:z=x
 .subst h;simp
 .rw[Xd h];simp[h]
def bE{α:Type}(l:List α)(k:Nat)(d:α)(h:k<l.length):l.getD k d=l[k]:=by rw[Qe,Qf h];rfl
def vC(w:Wo)(tb cb mb:Nat)(t:aE)(h:bf w tb cb mb t)(pv dv:Va)(ag au:Fr)(hp:Ns w w .i64 pv ag)(hd:Ns w w .i64 dv au)
  (dh:(ag.length:Int)=aR t.len) (oR:(au.length:Int)=aR ag.length) (hr:∀x∈ag++au,0<=x/\x<=65535):
  Calls prog 54 #[tb,.agg #[pv,dv]] w (iF (.bool (ke t ag au)) λw' =>ci w w') :=by
 obtain⟨Ap,cp,rfl,hp1,Tx⟩:=hp.form;obtain⟨Ad,cd,rfl,JO,TH⟩:=hd.form;have SC:ke t ag au=jE t [] (ag++au):=by rw[ke,Xa dh,Xa oR];rfl
 rw[SC];have⟨n,hn⟩:=eX t.len;have⟨np,ei⟩:=eX ag.length;have⟨nd,im⟩:=eX au.length;have⟨W1,aW⟩:=eX (w.alloc (.cells #[am Ap ag.length cp,am Ad au.length cd] 55));have⟨xb,eD⟩:=eX w.heap.size;have X1:Af (aq W1 xb 55 [am Ap np cp,am Ad nd cd]):=by show aq _ _ _ _;rw[aW,eD,ei,im];exact ar _ [_,_] _
 have B1:Af (ci w W1):=aW▸(aF _ _);have T1:=aa (h.on B1.o);have T0:=aa h;have ec:=h.ok;have HB:=aa (λ(W:Wo) (hW:ci W1 W)=>cn W tb n _ _ (by rw[hn];exact(T1.o.on hW).x0));have Yd:=aa (HB.o W1 pi);have r1:=ff n Mx zco;have tp:=aa (λW=>dY W n Mx zco);have AJ:=aa (λW=>dY W np Mx (by rw[ei,dh,<-hn];omega));rw[<-hn] at dh;rw[<-dh,<-ei] at tp;rw[<-ei] at oR;rw[<-oR,<-im] at AJ;have Hp:=aa (show Ns W1 w .i64 (am Ap np cp) ag by rw[ei];exact Ns.below hp B1.o);have Hd:=aa (show Ns W1 w .i64 (am Ad nd cd) au by rw[im];exact Ns.below hd B1.o);have Hr:=aa hr;have Hn:=Nv hn ei im (by omega:np<=1700) (by have:=ff np Mx Mx;omega:nd<=1700) (by have:=ec.n0;omega:1<=n);have jU:((n:Int)==0)=false:=Xc wl;rw[<-ei,<-im] at aW|-;have gB:=aa aW.symm;have xD:=aa eD.symm;clear SC hr dh oR hp hd hn ei im aW eD hp1 Tx JO TH ec h r1;go_in;go_upto_region 1 with fail
 rw[gB.o,xD.o];go_upto_region 2 with(first
  |(go_at_call 63;(with_reducible refine Yd.o.mono ?_);rintro e W2 ⟨rfl,rfl⟩)
  |(go_at_call 30;(with_reducible refine(tp.o _).mono ?_);rintro e W2 ⟨rfl,rfl⟩))
 obtain⟨x0,x1⟩:=gh X1.o;have WX:Af (∀k,Calls prog 63 #[tb] (W1.drewN k) λe DW =>e= .returned (ac n)/\∃m,DW =W1.drewN m):=λk=>Qec ((HB.o (W1.drewN k) (below_drewN pi k)).mono λ_ _ h=>⟨h.1,h.2.symm⟩);have HQ2:Af (∀k,Calls prog 30 #[ac np] (W1.drewN k) λe DW =>e= .returned (ac nd)/\∃m,DW =W1.drewN m):=λk=>Qec ((AJ.o (W1.drewN k)).mono λ_ _ h=>⟨h.1,h.2.symm⟩);have e1:(((np:Nat):Int)!=np)=false:=Sv;have e2:(((nd:Nat):Int)!=nd)=false:=Sv
 go_quiet (first
  |((go_at_call 63;with_reducible exact WX.o _))
  |((go_at_call 30;with_reducible exact HQ2.o _)))
 have⟨W2,cE⟩:=eX (W1.drewN nq);have B2:Af (ci w W2):=cE▸(below_drewN B1.o nq);have X2:Af (aq W2 xb 55 [am Ap np cp,am Ad nd cd]):=cE▸X1.o;have Hp2:Af (Ns W2 w .i64 (am Ap np cp) ag):=cE▸Hp.o;have Hd2:Af (Ns W2 w .i64 (am Ad nd cd) au):=cE▸Hd.o;have HT:Af (∀W,ci w W->bf W tb cb mb t):=λW hW=>T0.o.on hW;rw[<-cE];clear cE HB Yd tp AJ WX HQ2 e1 e2 x0 x1 jU X1 B1 T1 Hp Hd gB xD T0;have M3:Af (MG Uc (W2.alloc (.map #[] 0)) W2 (λ_=>none) 0):=MG.made W2;have jW:=aF W2 (.map #[] 0);have⟨W3,cD⟩:=eX (W2.alloc (.map #[] 0));have⟨m,hm⟩:=eX W2.heap.size;have hm3:Af (m<W3.heap.size/\w.heap.size<=m):=⟨by rw[cD,hm];simp,by rw[hm];exact B2.o.size⟩;rw[<-cD] at jW M3;rw[<-hm] at M3;obtain⟨B3,X3,Hp3,Hd3,mT,Hm⟩:=us (Pd B2.o jW) (X2.o.on jW) (Ns.below Hp2.o (jW.mono B2.o.size)) (Ns.below Hd2.o (jW.mono B2.o.size)) cD.symm hm.symm;have xA:= @run_makeMap prog;clear jW cD hm Hp2 Hd2 X2;go_upto_region 5 with fail
 rw[mT.o,Hm.o];clear xA;obtain⟨x0,x1⟩:=gh X3.o;obtain⟨W4,j7,R4,sm⟩:=nW W3 [am Ap np cp,am Ad nd cd] 53;have HC:=aa (nQ W4 (el W3 0 2 2) [(am Ap np cp,ag),(am Ad nd cd,au)]
  ⟨R4.rw.sl (n:=2) (sz:=1) rfl go Fd,λp hp=>by
   have hle:=Qh B3.o.size sm.size;obtain rfl|hp:=QA.1 hp
   .exact(Ns.below Hp3.o (sm.mono B3.o.size)).more hle
   .rw[Qx] at hp
    subst hp;exact(Ns.below Hd3.o (sm.mono B3.o.size)).more hle⟩ Sv (by unfold iL;have:=Hn.o;simp;omega))
 rw[j7] at HC;have e2:([(Value.slice Ap np cp,ag),(Value.slice Ad nd cd,au)].flatMap Prod.snd)=ag++au:=Sv;rw[e2] at HC;have Hb4:=iJ (Pd B3.o sm) (Qn hm3.p1 sm.size) (M3.o.on sm);have Bh:=aa j7;clear sm R4 j7 e2;have⟨all,bm⟩:=eX (ag++au);rw[<-bm] at HC Hr;have Fe:=aa bm;have⟨len,hlen⟩:=eX all.length;have lD:=dK hlen (by rw[hlen,bm,Qo];have:=Hn.o;omega:len<=3400);clear bm hlen;go_wp2_with(go_at_call 120;refine tx HC.o λv5 W5 o5 b5=> ?_;rw[<-Bh.o] at o5 b5;have kr:=o5.ns.form;obtain⟨A5,c5,hv5,-,-⟩:=kr;rw[<-lD.p1] at hv5;subst hv5;have O5:=aa o5;have B5:=aa b5;clear o5 b5);have Hv5:Af (∀x,(Value.slice A5 len c5).ownBlock=some x->m<x):=λx hx=>Qn Hb4.p2 (Xr O5.o x hx).1;have mU:=dK (Pd Hb4.p1 B5.o) (Hb4.q2.on B5.o);clear HC Hp3 Hd3 x0 x1 X3 M3;go_loopw [38] (λi wr=>∃(k:Nat) (seen:Fr),i= ac k/\Af (k<=len/\seen.length<=k/\MG Uc wr m (fx seen) seen.length/\aG (λx=>x=m) W5 wr/\jE t [] all=jE t seen (all.drop k))) (λi _=>len - (intOf i).toNat)
 .exact⟨0,[],rfl,lm,go,mU.q1,aG.refl _ _,rfl⟩
 .obtain⟨k,seen,rfl,HR⟩:=hrel;have MJ:=mU.p1.trans (HR.p4.below mU.p1.size (λx hx e=>by have:=hm3.o;omega));by_cases aJ:k<len
  .have bQ:k<all.length:=(by have:=lD.o;omega);obtain⟨b,o,c',hv,-,-,hb,aH⟩:=O5.o.ns.cells Mx;rw[<-lD.p1] at hv
   cases hv;have⟨x,hx⟩:=eX (all.getD k 0);have pf:all[k]? =some x:=zag;have Wx:all.drop k=x::all.drop (k+1):=(by rw[Zd bQ];congr 1;rw[hx,bE _ _ _ bQ]);have wA:=Hr.o x (Qi pf);have hbm:¬b=m:=(by have:=Hv5.o b rfl;omega);have y0:=(HR.p4.cell (p:=an b (o+k)) hb hbm).trans (hx▸(aH k bQ));have fp:wrap64 ((k:Int)+1)=(k:Int)+1:=(by unfold wrap64;have:=lD.o;omega);have hi:(k:Int)<len:=Mx;have ml:(0:Int)<=k:=Mx;have eu:=aa fp;have mY:Af ((Lit.int .i64 x).wf=true):=mo Mx;have HM:=aa HR.p3;have HCg:=aa HR.p4;have HS:=iJ (by rw[<-Wx];exact HR.q4:jE t [] all=jE t seen (x::all.drop (k+1))) HR.p2 (by have:=lD.o;omega:k<=3400);have Hx0:=aa wA.1;clear hx pf Wx bQ HR aH hb hbm;change Af _ at aJ MJ;by_cases gd:x=0
   .subst gd;clear wA;go_wp2;go_roundw
    .exact⟨k+1,seen,xh,aJ.o,XK HS.p2,HM.o,HCg.o,by rw[HS.p1];show(if(0:Int)=0 then _ else _)=_;rw[Xo rfl]⟩
    .exact zdX
   .have Hxn:=aa gd;have jr:=Xc gd;by_cases ph:x∈seen
    .have hf:fx seen x=some 1:=(by rw[fx,Xo ph]);have Hin:=aa ph;have q1:(Instr.lookup 69 (.map (some m)) (ac x) false).run prog wr= .ok (ac 1) wr:=(by have h1:=HM.o.at (x:=x) mY.o;rw[hf] at h1;exact h1);clear gd wA ph;go_upto_region 10 with((refine wl_put Uc (f:=fx seen) (s:=seen.length) rfl HM.o ?_ x 2 mY.o rfl rfl rfl ?_);(·have:=HS.o;omega);intro W7 Nd ti;have WZ:=aa Nd;have XZ:=aa ti;clear Nd ti);have q2:(Instr.lookup 69 (.map (some m)) (ac x) false).run prog W7= .ok (ac 2) W7:=(by have h1:=WZ.o.at (x:=x) mY.o;have e:eM (fx seen) x 2 x=some 2:=(by simp[eM]);rw[e] at h1;exact h1);clear q1;go_wp2;go_ret;refine⟨?_,MJ.o.grown XZ.o MJ.o.size (λj e=>by cases e;exact hm3.q1)⟩;have e:jE t seen (x::all.drop (k+1))=false:=(by show(if x=0 then _ else _)=_;rw[Xd Hxn.o];have:seen.contains x=true:=(by simpa using Hin.o);rw[this];rfl);exact jK (by rw[<-Fe.o,HS.p1,e])
    .have hf:fx seen x=none:=(by rw[fx,Xd ph]);have Hin:=aa ph;have q1:(Instr.lookup 69 (.map (some m)) (ac x) false).run prog wr= .ok (ac 0) wr:=(by have h1:=HM.o.at (x:=x) mY.o;rw[hf] at h1;exact h1);have wE:Af ((seen.contains x)=false):=(by show _=_;simpa using ph);clear gd wA ph;go_upto_region 10 with((refine wl_put Uc (f:=fx seen) (s:=seen.length) rfl HM.o ?_ x 1 mY.o rfl rfl rfl ?_);(·have:=HS.o;omega);intro W7 Nd ti;have WZ:=aa Nd;have XZ:=aa ti;clear Nd ti);have q2:(Instr.lookup 69 (.map (some m)) (ac x) false).run prog W7= .ok (ac 1) W7:=(by have h1:=WZ.o.at (x:=x) mY.o;have e:eM (fx seen) x 1 x=some 1:=(by simp[eM]);rw[e] at h1;exact h1);have WC:=MJ.o.grown XZ.o MJ.o.size (λj e=>by cases e;exact hm3.q1);have hG:=qH W7 tb cb mb t (HT.o W7 WC) x;rw[Xo Hx0.o] at hG;have⟨g,hg⟩:=eX (t.get x.toNat);rw[<-hg] at hG;clear q1;change Af _ at WC hg hG;by_cases AV:g=0
     .subst AV;go_wp2_with(go_at_call 121;refine PP hG.o ?_);go_ret;refine⟨?_,WC.o⟩;have e:jE t seen (x::all.drop (k+1))=false:=(by show(if x=0 then _ else _)=_;rw[Xd Hxn.o,wE.o,<-hg.o];rfl);exact jK (by rw[<-Fe.o,HS.p1,e])
     .have SN:=Xc AV;have Hg1:=aa SN;clear AV;go_wp2_with(go_at_call 121;refine PP hG.o ?_);go_roundw
      .refine⟨k+1,x::seen,xh,aJ.o,Qdc HS.p2,?_,HCg.o.trans (aG.dH XZ.o (λj _ e=>(Qr e).symm)),?_⟩
       .have h1:=WZ.o;rw[ym] at h1;have e:(fx seen x).isSome=false:=(by rw[fx,Xd Hin.o];rfl);rw[e] at h1;exact h1
       .rw[HS.p1];show(if x=0 then _ else _)=_;rw[Xd Hxn.o,wE.o,<-hg.o,Hg1.o];rfl
      .exact zdX
  .have hk:k=len:=(by have:=HR.p1;omega);have hi:¬(k:Int)<len:=Mx;have e1:all.drop k=[]:=Zu (by have:=lD.o;omega);have e2:jE t [] all=true:=(by rw[HR.q4,e1];rfl);clear e1 HR hk aJ;change Af _ at e2 MJ;go_wp2;go_ret;exact⟨jK (by rw[<-Fe.o,e2.o]),MJ.o⟩
end
section
def DK(w:Wo)(q:Nat):ci w (w.drewN q):=below_drewN pi q
section
variable (w : Wo)(v : Va)(l : List Int)
def oF(B:Nat)(h:Ns w B .i64 v l)(hl:l.length<=1000000)(x:Int):
  Calls prog 70 #[v,ac x] w (iF (.bool (l.contains x)) λw' =>w=w') :=by
 obtain h0|h0:=XG l.length
 .have:l=[]:=Zf h0;subst this;obtain⟨A,c,rfl,-,-⟩:=h.form;exact(Tryz.slices_Contains_int_empty A c x w).mono λe w' ⟨h1,h2⟩=>⟨h1,h2.symm⟩
 .obtain⟨b,o,c,rfl,h1,h2,h3,h4⟩:=h.cells h0;refine(Tryz.slices_Contains_int b o l.length c l x w go Mx h4).mono λe w' ⟨e1,e2⟩=>⟨?_,e2.symm⟩;rw[e1,XU]
def Si(B:Nat)(h:Ns w B .i64 v l)(hl:l.length<=1000000)(x:Int)(hs:l.Pairwise (·<=·)):
  Calls prog 168 #[v,ac x] w (iF (.tuple #[ac (l.countP (·<x):Nat),.bool (l.contains x)]) λw' =>∃q,w' =w.drewN q):=by
 obtain h0|h0:=XG l.length
 .have:l=[]:=Zf h0;subst this;obtain⟨A,c,rfl,-,-⟩:=h.form;exact(Tryz.slices_BinarySearch_int_empty A c x w).mono λe w' ⟨h1,h2⟩=>⟨h1,0,h2⟩
 .obtain⟨b,o,c,rfl,h1,h2,h3,h4⟩:=h.cells h0;refine(Tryz.slices_BinarySearch_int b o l.length c l x w go Mx h4 (XU▸hs)).mono λe w' ⟨e1,e2⟩=>⟨?_,e2⟩;rw[e1,XU]
def Fl(B:Nat)(h:Ns w B .i64 v l)(hl:l.length<=1000000):
  Calls prog 95 #[v] w λe w' =>∃v',e= .returned v'/\aB w' w 3 .i64 v' l/\ci w w' :=by
 obtain h0|h0:=XG l.length
 .have:l=[]:=Zf h0;subst this;obtain⟨hl0,A,c,rfl,hc,hm,hz,hr⟩:=h;cases A with
  |none=>
   have:=hz rfl;subst this;refine(Tryz.slices_Clone_int_nil 0 0 w).mono λe w' ⟨e1,e2⟩=> ?_;exact⟨_,e1,by rw[e2];exact cQ _ _ _ _,e2▸pi⟩
  |some a=>
   refine(Tryz.slices_Clone_int_zero a c w).mono λe w' ⟨v',e1,e2,e3,e4⟩=> ?_;exact⟨v',e1,e2,e4⟩
 .obtain⟨b,o,c,rfl,h1,h2,h3,h4⟩:=h.cells h0;refine(Tryz.slices_Clone_int b o l.length c l w go Mx h4).mono λe w' ⟨v',e1,e2,e3,e4⟩=>⟨v',e1,?_,e4⟩;rw[XU] at e2;exact e2
def amV(B:Nat)(h:Ns w B .i64 v l)(h0:0<l.length)(hl:l.length<=1000000):
  Calls prog 143 #[v] w (iF (ac (Lib.maxOf l)) λw' =>w=w') :=by
 obtain⟨b,o,c,rfl,h1,h2,h3,h4⟩:=h.cells h0;refine(Tryz.slices_Max_int b o l.length c l w h0 go Mx h4).mono λe w' ⟨e1,e2⟩=>⟨?_,e2.symm⟩;rw[e1,XU]
end
def ach(w:Wo)(v u:Va)(l m:Fr)(B B' :Nat)(h:Ns w B .i64 v l)(k:Ns w B' .i64 u m)(hl:l.length<=1000000)(hm:m.length<=1000000):
  Calls prog 194 #[v,u] w (iF (.bool (l==m)) λw' =>∃q,w' =w.drewN q):=by
 obtain⟨A,c,hv,-,-⟩:=h.form;obtain⟨A2,c2,AO,-,-⟩:=k.form;by_cases bT:l.length=m.length
 .rcases XG l.length with h0|h0
  .have e1:l=[]:=Zf h0;have e2:m=[]:=Zf Mx;subst e1 e2;rw[hv,AO];exact(Tryz.slices_Equal_int_empty A A2 c 0 c2 w Fd).mono λe w' ⟨h1,h2⟩=>⟨h1,0,h2⟩
  .obtain⟨b,o,c,rfl,h1,h2,h3,h4⟩:=h.cells h0;obtain⟨b',o',c',rfl,k1,k2,k3,k4⟩:=k.cells Mx;refine(Tryz.slices_Equal_int b o l.length c b' o' m.length c' l m w go go Mx Mx h4 k4).mono λe w' ⟨e1,e2⟩=>⟨?_,e2⟩;rw[e1,XU,XU]
 .rw[hv,AO];refine(Tryz.slices_Equal_int_lens A A2 l.length c m.length c2 w bT).mono λe w' ⟨h1,h2⟩=>⟨?_,0,h2⟩;have:(l==m)=false:=by rw[beq_eq_false_iff_ne];intro e;exact bT zbl
  rw[this,h1]
end
def amN(tb pb g0 g1 h0 h1 np nd c0 c1:Nat):List Va:=[tb,pb,.slice (some ⟨g0,0,none⟩) np c0,.slice (some ⟨g1,0,none⟩) nd c1,.slice (some ⟨h0,0,none⟩) np np,.slice (some ⟨h1,0,none⟩) nd nd]
structure nj(w:Wo)(xb tb pb g0 g1 h0 h1 c0 c1:Nat)(x:fk):Prop where
 own:aq w xb 181 (amN tb pb g0 g1 h0 h1 x.ag.length x.au.length c0 c1)
 r0:Rw w g0 3 (x.ag.map (.int .i64))
 r1:Rw w g1 3 (x.au.map (.int .i64))
 p0:Rw w h0 4 (x.pp.map .bool)
 p1:Rw w h1 4 (x.pd.map .bool)
 SX:g0≠g1
 SW:h0≠h1
 lp:x.pp.length=x.ag.length
 ld:x.pd.length=x.au.length
 pV:x.ag.length<=c0/\c0<=maxLen
 jb:x.au.length<=c1/\c1<=maxLen
 n0:x.ag.length<=2000
 n1:x.au.length<=2000
def nj.on{w w' :Wo}{xb tb pb g0 g1 h0 h1 c0 c1:Nat}{x:fk}(h:nj w xb tb pb g0 g1 h0 h1 c0 c1 x)(hb:ci w w'):nj w' xb tb pb g0 g1 h0 h1 c0 c1 x:=
 ⟨h.own.on hb,h.r0.on hb,h.r1.on hb,h.p0.on hb,h.p1.on hb,h.SX,h.SW,h.lp,h.ld,h.pV,h.jb,h.n0,h.n1⟩
def Gn(w:Wo)(B:Nat)(v:Va)(l:List Bool)(h:Ts w B v l)(hl:l.length<=10000):
  Calls prog 204 #[v,.bool true] w λe w' =>(∃k:Int,e= .returned (ac k)/\decide (0<=k)=l.any id)/\w=w' :=by
 obtain⟨A,c,rfl,jb,pk⟩:=Sl.form h;have⟨n,hn⟩:=eX l.length;have H:=aa h;have Hn:=dK hn (by omega:n<=10000);rw[<-hn];clear h hl hn jb pk;go_in;go_wp2;go_loop [8] (λi=>∃k:Nat,i= ac k/\Af (k<=n/\(l.take k).any id=false)) (λi=>n - (intOf i).toNat)
 .exact⟨0,rfl,lm,rfl⟩
 .obtain⟨k,rfl,HR⟩:=hrel;by_cases aJ:k<n
  .have bQ:k<l.length:=(by have:=Hn.o;omega);obtain⟨b,o,c',hv,-,-,hb,aH⟩:=H.o.cells Mx;cases hv;have⟨x,hx⟩:=eX (l.getD k false);have pf:l[k]? =some x:=zag;have y0:jp w b (o+k) (.bool x):=hx▸(aH k bQ);have fp:wrap64 ((k:Int)+1)=(k:Int)+1:=At;have hi:(k:Int)<n:=Mx;have ml:(0:Int)<=k:=Mx;have eu:=aa fp;have Hi0:=aa ml;clear hx bQ aH hb;change Af _ at pf aJ;cases x with
   |true=>
    go_wp2;go_ret;refine⟨⟨k,rfl,?_⟩,rfl⟩;rw[Xa Hi0.o];symm;rw[Xb];exact⟨true,Qi pf.o,rfl⟩
   |false=>
    go_wp2;go_round
    .refine⟨k+1,xh,aJ.o,?_⟩;rw[aA _ _ _ pf.o,List.any_append,HR.q1];rfl
    .exact zdX
  .have hk:k=n:=(by have:=HR.p1;omega);have hi:¬(k:Int)<n:=Mx;have e1:l.take k=l:=Qj wl;have fF:=aa HR.q1;rw[e1] at fF;clear e1 HR hk aJ;go_wp2_with fail;go_ret;exact⟨⟨-1,rfl,by rw[fF.o];rfl⟩,rfl⟩
def xi(w:Wo)(B:Nat)(v:Va)(l:List Bool)(h:Ts w B v l)(hl:l.length<=10000):
  Calls prog 167 #[v,.bool true] w (iF (.bool (l.any id)) λw' =>w=w') :=by
 have HI:=aa (Gn w B v l h hl);clear h hl;go_in;go_wp2_with(go_at_call 204;refine HI.o.mono ?_;rintro e W2 ⟨⟨k,rfl,hk⟩,rfl⟩;have Hk:=aa hk;clear hk);go_ret;exact⟨jK Hk.o,rfl⟩
def Fu(w:Wo)(xb tb pb g0 g1 h0 h1 c0 c1:Nat)(x:fk)(h:nj w xb tb pb g0 g1 h0 h1 c0 c1 x)(i:Nat)(hi:i<x.au.length)(hii:61*i<x.ag.length):
  Calls prog 97 #[xb,ac 1,ac i] w (iF (.bool (x.gH i)) λw' =>w=w') :=by
 obtain⟨x0,-,-,x3,x4,x5⟩:=cL6 h.own;have hid:i<x.pd.length:=h.ld▸hi;have y0:=h.p1.cell (j:=i) (u:= .bool (x.pd.getD i false)) (by rw[Qt,Qf hid,bE _ _ _ hid];rfl);have y1:=h.r1.cell (j:=i) (u:= ac (x.au.getD i 0)) zdl;have hT:Ts w w (el h0 (61*i) (min (61*i+61) x.ag.length - 61*i) (x.ag.length - 61*i)) ((x.pp.drop (61*i)).take 61):=by
  have hl:((x.pp.drop (61*i)).take 61).length=min (61*i+61) x.ag.length - 61*i:=by rw[Qu,Zt,h.lp];omega
  rw[Ts,hl];refine kT (by rw[Qq,hl,Qci]) Mx (by have:=h.n0;unfold maxLen;omega) ⟨h.p0.lt,λj u hu=>h.p0.cell ?_⟩;rw[Qt,Ze] at hu;split at hu
  .rw[Zb] at hu;rw[Qt];exact hu
  .simp at hu
 have⟨q,hq⟩:=eX (min (61*i+61) x.ag.length);have⟨p,hp⟩:=eX (61*i);have⟨np,ei⟩:=eX x.ag.length;have jU:=h.n0;unfold fk.gH;rw[<-hq,<-hp,<-ei] at hT;have HC:=aa (xi w _ _ _ hT zcK);rw[<-hp];rw[<-ei] at x4;have w1:wrap64 ((i:Int)*61)=p:=vW;have w2:wrap64 ((i:Int)+1)=i+1:=vW;have w3:wrap64 (((i:Int)+1)*61)=(p:Int)+61:=vW;have hpq:min ((p:Int)+61) np=q:=Mx;have k1:(0:Int)<=p:=Mx;have k2:(p:Int)<=q:=Mx;have k3:(q:Int)<=np:=Mx;have k4:p<=q:=Mx;have k5:q<=np:=Mx;have k6:¬np=p:=Mx;have k7:(0:Int)<=i:=Mx;have k8:(i:Int)<x.au.length:=Mx;have k9:(i:Int)<x.pd.length:=Mx;generalize x.au.length=nd at*;generalize x.pd.length=nd' at*;generalize x.pd.getD i false=pl at*;generalize x.au.getD i 0=a at*;generalize ((x.pp.drop p).take 61).any id=r at*;clear h hi hii hid hT hq hp ei jU;cases pl with
 |true=>
  go_in;go_wp2;exact vl
 |false=>
  by_cases ha:a=0
  .subst ha;go_in;go_wp2;exact vl
  .have ha2:=Xc ha;rw[Xd ha];clear ha;go_in;go_wp2_with(go_at_call 167;refine PP HC.o ?_);exact vl
def wm{l:Fr}{a:Int}(h:∀y∈l,a<=y):l.countP (·<a)=0:=List.countP_eq_zero.2 λy hy=>by have:=h y hy;simp;omega
def yU:∀(l:Fr) (a e:Int),l.Pairwise (·<·)->a<e->l.any (λb=>decide (a<=b)&&decide (b<e))=(l.contains a||(decide (l.countP (·<a)<l.length)&&decide (l.getD (l.countP (·<a)) 0<e)))
 |[],a,e,_,_=>rfl
 |b::r,a,e,h,hae=>by
  obtain⟨h1,h2⟩:=List.pairwise_cons.1 h;by_cases hb:b<a
  .rw[Qgu,yU r a e h2 hae,List.countP_cons_of_pos (by simpa using hb),QF,Qbj,List.contains_cons];have e1:decide (a<=b)=false:=Xe Mx;have e2:(a==b)=false:=Xc Mx;rw[e1,e2];simp
  .have h3:∀y∈b::r,a<=y:=λy hy=>by
    obtain rfl|hy:=QA.1 hy
    .omega
    .have:=h1 y hy;omega
   rw[wm h3,List.getD_cons_zero,QF,Xa (by omega:0<r.length+1),Qda];by_cases mG:b<e
   .rw[Xa mG,Bool.or_true,Qgu,Xa (by omega:a<=b),Xa mG];rfl
   .rw[Xe mG,Bool.or_false];have e1:(b::r).contains a=false:=by
     rw[Xf];intro hc;have hm:a∈b::r:=(by simpa using hc);obtain e2|e2:=QA.1 hm
     .omega
     .have:=h1 a e2;omega
    rw[e1,List.any_eq_false];intro y hy;obtain rfl|hy:=QA.1 hy
    .simp;omega
    .have:=h1 y hy;simp;omega
def w61(i p:Nat)(hp:p=61*i)(h:i<=5000):wrap64 ((i:Int)*61)=p/\wrap64 ((i:Int)+1)=i+1/\wrap64 (((i:Int)+1)*61)=(p:Int)+61:=by refine⟨?_,?_,?_⟩<;>unfold wrap64<;>omega
def Gj{V:Type}(l:List (Option V)):(gJ l).length<=l.length:=by rw[gJ,Qq];exact Qh (Qby _ _) Sv
def Am{t:aE}{i:Nat}(h:t.kept.length=t.len):t.changed.any (λb=>decide (61*i<=b)&&decide (b<61*(i+1)))=(gJ t.kept).any (λb=>decide (((61*i:Nat):Int)<=b)&&decide (b<((61*i:Nat):Int)+61)):=by unfold aE.changed gJ;rw[List.any_map,h];congr 1;funext b;simp only[Function.comp];congr 1<;>exact decide_eq_decide.2 Mx
def Fv(w:Wo)(xb tb pb g0 g1 h0 h1 c0 c1 cb mb:Nat)(x:fk)(h:nj w xb tb pb g0 g1 h0 h1 c0 c1 x)(ht:bf w tb cb mb x.t)(i:Nat)(hi:i<x.ag.length):
  Calls prog 97 #[xb,ac 0,ac i] w (iF (.bool (x.fU i)) λw' =>ci w w') :=by
 obtain⟨x0,-,x2,-,x4⟩:=cL5 h.own;have hip:i<x.pp.length:=h.lp▸hi;have y0:=h.p0.cell (j:=i) (u:= .bool (x.pp.getD i false)) (by rw[Qt,Qf hip,bE _ _ _ hip];rfl);have y1:=h.r0.cell (j:=i) (u:= ac (x.ag.getD i 0)) zdl;have jU:=h.n0;unfold fk.fU;have uC:=Am (i:=i) ht.ok.J0;have OP:=Gj x.t.kept;rw[ht.ok.J0] at OP;have anf:=ht.ok.n1;have ET:=sP x.t.kept;rw[yU _ _ _ ET Mx] at uC;rw[uC];have Ep:=aa (λ(W:Wo) (hW:ci w W)=>DR W tb cb mb x.t (ht.on hW));have HOw:=aa (λ(W:Wo) (hW:ci w W)=>(hW.cell (p:=ol xb) h.own.lt).trans x0);have⟨ch,kG⟩:=eX (gJ x.t.kept);rw[<-kG] at Ep ET OP|-;have anI:=aa (ET.imp (S:=(·<=·)) λh=>Mx);have⟨p,hp⟩:=eX (61*i);rw[<-hp];have⟨c,hc⟩:=eX (ch.countP (·<(p:Int)));rw[<-hc];have⟨th,ZE⟩:=eX (ch.contains (p:Int));rw[<-ZE];obtain⟨y,hy⟩:∃q:Int,q=ch.getD c 0:=⟨_,rfl⟩;rw[<-hy];have⟨m,hm⟩:=eX ch.length;rw[<-hm];have Hc:=Ba hc ZE hy hm (by omega:m<=5000);have HcL:Af (ch.length<=1000000):=Qh (Xg Hc.p4.symm) (Qh Hc.q4 Fd);have k7:=Xh i;have k8:=Xi.2 hi;have k9:=Xi.2 hip;obtain⟨w1,w2,w3⟩:=w61 i p hp (Qh (QX hi) (Qh jU Fd));have Wt:=h.lp;rw[<-Wt] at x2 k8 x4;generalize x.pp.length=np at*;generalize x.pp.getD i false=pl at*;generalize x.ag.getD i 0=a at*;clear h ht hi hip hp jU uC anf OP ET kG hc ZE hy hm Wt;cases pl with
 |true=>
  exact zfJ
 |false=>
  by_cases ha:a=0
  .subst ha;exact zfJ
  .have ha2:=Xc ha;rw[Xd ha];have su:=aa (Ep.o w pi);clear ha;go_in;go_upto_region 6 with fail
   go_upto_region 7 with(first
    |(go_at_call 34;refine su.o.mono ?_;rintro e W1 ⟨v1,rfl,o1,b1⟩;have O1:=aa o1;have B1:=aa b1;clear o1 b1)
    |(go_at_call 168;refine(Si W1 v1 ch W1 O1.o.ns HcL.o p anI.o).mono ?_;rintro e W2 ⟨rfl,q,hq⟩;rw[<-Hc.p1,<-Hc.p2];have B2:Af (ci w W2):=(by show ci _ _;rw[hq];exact below_drewN B1.o q);clear hq))
   clear su;by_cases ZE:th=true
   .subst ZE;go_wp2_with fail;go_ret;exact⟨rfl,B2.o⟩
   .have am6:th=false:=(by simpa using ZE);have gd:=HOw.o W2 B2.o;have HC2:=aa (Ep.o W2 B2.o);clear ZE;subst am6;go_upto_region 10 with(go_at_call 34;refine HC2.o.mono ?_;rintro e W3 ⟨v3,rfl,o3,b3⟩;have O3:=aa o3;have B3:=aa (Pd B2.o b3);have hv3:=o3.ns.form;obtain⟨A3,c3,hv3,-,-⟩:=hv3;rw[<-Hc.p4] at hv3;subst hv3;clear o3 b3);clear HC2 gd k7 k8 k9 w1;by_cases oS:c<m
    .obtain⟨b,o,c',hv,-,-,hb,aH⟩:=O3.o.ns.cells (Hc.p4▸QO (Qp c) oS);rw[<-Hc.p4] at hv;cases hv;have z0:jp W3 b (o+c) (ac y):=Hc.p3▸(aH c (Hc.p4▸oS));have q1:=Xi.2 oS;have q2:=Xh c;have Hcm:=aa oS;clear aH hb oS;go_wp2;go_ret;exact⟨jK (by simp[Hcm.o]),B3.o⟩
    .have q1:¬(c:Int)<m:=λh=>oS (Xi.1 h);have Hcm:=aa oS;clear oS;go_wp2_with fail;go_ret;exact⟨jK (by simp[Hcm.o]),B3.o⟩
section
variable{a b xb tb pb g0 g1 h0 h1 c0 c1 cb mb:Nat}{e:Fy}{cs:Ox}{w w' :Wo}{x:fk}
structure fA(w:Wo)(xb tb pb g0 g1 h0 h1 c0 c1 cb mb:Nat)(x:fk):Prop where
 gm:nj w xb tb pb g0 g1 h0 h1 c0 c1 x
 fh:bf w tb cb mb x.t
 pick:aq w pb 131 (iX tb 2 x.next)
 n2:2<=x.next
 nl:x.next<=x.t.len
 pos:∀y∈x.ag++x.au,0<=y
def PS(pb tb cb mb g0 g1 h0 h1:Nat):Nat->Prop:=λk=>(k=pb\/TS tb cb mb k)\/k=g0\/k=g1\/k=h0\/k=h1
def aE.Jq{t:aE}{k:Nat}(SQ:a<=b)(h:t.find a b=some k):k<t.len/\a<=k/\t.free k=true:=by
 unfold aE.find at h;have h1:=Qic h;have h2:=Qdt h;have h4:=h1;unfold aE.free at h1;simp at h1;obtain h3|h3:=Qz.1 h2
 .have:=(List.mem_range'_1.1 h3).1;exact⟨h1.1.1,Mx,h4⟩
 .have:=(List.mem_range'_1.1 h3).1;exact⟨h1.1.1,this,h4⟩
def aE.lM(t:aE)(next:Nat)(h1:2<=next)(h2:next<=t.len):(t.take 2 next).2.2.1.len=t.len/\2<=(t.take 2 next).2.2.2/\(t.take 2 next).2.2.2<=t.len/\0<=(t.take 2 next).1/\(t.take 2 next).1<=t.len:=by
 unfold aE.take;cases hf:t.find 2 next with
 |none=>exact⟨rfl,h1,h2,Qcp _,Sv⟩
 |some k=>
  obtain⟨k1,k2,-⟩:=aE.Jq h1 hf;refine⟨aE.tU _ _,?_,?_,Sv,?_⟩
  .show 2<=if k+1=t.len then 2 else k+1;split<;>omega
  .show(if k+1=t.len then 2 else k+1)<=t.len;split<;>omega
  .show(k:Int)<=t.len;omega
def aE.vh(t:aE)(b:Nat):(t.down b).2.len=t.len:=by
 unfold aE.down;split
 .rfl
 .split
  .rfl
  .exact aE.tU _ _
section
def nj.aL{S:FV}(h:nj w xb tb pb g0 g1 h0 h1 c0 c1 x)(hc:aG S w w')(k0:¬S xb)(k1:¬S g0)(k2:¬S g1)(k3:¬S h0)(k4:¬S h1):nj w' xb tb pb g0 g1 h0 h1 c0 c1 x:=
 ⟨h.own.aL hc k0,h.r0.aL hc k1,h.r1.aL hc k2,h.p0.aL hc k3,h.p1.aL hc k4,h.SX,h.SW,h.lp,h.ld,h.pV,h.jb,h.n0,h.n1⟩
def Rw.bS{K V:Type}{M:MK K V}{w:Wo}{m s:Nat}{f:K->Option V}(h:Rw w a e cs)(k:MG M w m f s):a≠m:=by rintro rfl;obtain⟨cur,h0,_⟩:=h;obtain⟨D,⟨es,clock,h1,_⟩,_⟩:=k;rw[h0] at h1;cases h1
def fA.apart(h:fA w xb tb pb g0 g1 h0 h1 c0 c1 cb mb x):∀k,(k=xb\/k=g0\/k=g1\/k=h0\/k=h1)->¬(k=pb\/TS tb cb mb k):=by
 intro k hk hs;unfold TS at hs;have a1:=h.gm.own.ne h.pick Fd;have a2:=h.gm.own.ne h.fh.own Fd;have a3:=h.gm.own.ne h.fh.counts Fd;have a4:=h.gm.own.bS h.fh.kept;have b1:=h.gm.r0.ne h.pick Fd;have b2:=h.gm.r0.ne h.fh.own Fd;have b3:=h.gm.r0.ne h.fh.counts Fd;have b4:=h.gm.r0.bS h.fh.kept;have d1:=h.gm.r1.ne h.pick Fd;have d2:=h.gm.r1.ne h.fh.own Fd;have d3:=h.gm.r1.ne h.fh.counts Fd;have d4:=h.gm.r1.bS h.fh.kept;have e1:=h.gm.p0.ne h.pick Fd;have e2:=h.gm.p0.ne h.fh.own Fd;have e3:=h.gm.p0.ne h.fh.counts Fd;have e4:=h.gm.p0.bS h.fh.kept;have f1:=h.gm.p1.ne h.pick Fd;have f2:=h.gm.p1.ne h.fh.own Fd;have f3:=h.gm.p1.ne h.fh.counts Fd;have f4:=h.gm.p1.bS h.fh.kept;obtain rfl|rfl|rfl|rfl|rfl:=hk<;>obtain h' |h' |h' |h':=hs <;>
  first|exact a1 h' |exact a2 h' |exact a3 h' |exact a4 h' |exact b1 h' |exact b2 h' |exact b3 h' |exact b4 h' |exact d1 h' |exact d2 h' |exact d3 h' |exact d4 h' |exact e1 h' |exact e2 h' |exact e3 h' |exact e4 h' |exact f1 h' |exact f2 h' |exact f3 h' |exact f4 h'
end
def iC{w:Wo}{e' :Fy}{ks :Ox}(h:Rw w a e cs)(k:Rw w b e' ks)(he:e≠e'):a≠b:=by rintro rfl;obtain⟨cur,h0,_⟩:=h;obtain⟨anw,h1,_⟩:=k;rw[h0] at h1;injection h1 with h2;injection h2 with h3 h4;exact he h4
def F3(w W3:Wo)(xb tb pb g0 g1 h0 h1 c0 c1 cb mb:Nat)(x:fk)(i:Nat)(b:Int)(t:aE)(next:Nat)(hS:nj W3 xb tb pb g0 g1 h0 h1 c0 c1 x)(hT:bf W3 tb cb mb t)(hP:aq W3 pb 131 (iX tb 2 next))
  (hQ:aG (λk=>k=pb\/TS tb cb mb k) w W3) (yW:2<=next) (oc:next<=t.len) (kO:∀y∈x.ag++x.au,0<=y) (hb:0<=b):
  ∀W,W.heap=((W3.setCell (an g0 i) (ac b)).setCell (an h0 i) true).heap->W.os=W3.os->W.tape=W3.tape->W.output=W3.output->fA W xb tb pb g0 g1 h0 h1 c0 c1 cb mb {x with t:=t,next:=next,ag:=x.ag.set i b,pp:=x.pp.set i true}/\aG (PS pb tb cb mb g0 g1 h0 h1) w W:=by
 have dh:fA W3 xb tb pb g0 g1 h0 h1 c0 c1 cb mb {x with t:=t,next:=next}:=⟨⟨hS.own,hS.r0,hS.r1,hS.p0,hS.p1,hS.SX,hS.SW,hS.lp,hS.ld,hS.pV,hS.jb,hS.n0,hS.n1⟩,hT,hP,yW,oc,kO⟩;have pt:=dh.apart;have pZ:=hS.r0.ne hS.own Fd;have hhx:=hS.p0.ne hS.own Fd;have ngh:=iC hS.r0 hS.p0 Fd;have nog:=iC hS.r0 hS.p1 Fd;have noh:=iC hS.r1 hS.p0 Fd;intro W hW ho ht hu;have q:aG (λk=>k=g0\/k=h0) W3 W:=by refine⟨ho,ht,hu,by rw[hW];simp,λk hk hn=> ?_⟩;exact zfG
 have hg:Rw W g0 3 ((x.ag.set i b).map (.int .i64)):=by have h1:=(hS.r0.set i (ac b)).az (p:=an h0 i) ngh true;exact zfq
 have hh:Rw W h0 4 ((x.pp.set i true).map .bool):=by have h1:=(hS.p0.az (p:=an g0 i) (Xm ngh) (ac b)).set i true;exact zfq
 have AR:=hS.r1.aL q (by
  have:=hS.SX;rintro(e|e)
  .exact this Mx
  .exact noh e)
 have ZO:=hS.p1.aL q (by
  have:=hS.SW;rintro(e|e)
  .exact nog e.symm
  .exact this Mx)
 have hx:=hS.own.aL q zbE;have hn:∀k,(k=pb\/TS tb cb mb k)->¬(k=g0\/k=h0):=λk hk he=>pt k Mx hk;have hl:(x.ag.set i b).length=x.ag.length:=Zy;have rf:(x.pp.set i true).length=x.pp.length:=Zy;refine⟨⟨?_,hT.aL q (hn tb (.inr (.inl rfl))) (hn cb (.inr (.inr (.inl rfl)))) (hn mb (.inr (.inr (.inr rfl)))),hP.aL q (hn pb (.inl rfl)),yW,oc,?_⟩,?_⟩
 .exact zeb
 .intro y hy;obtain h1|h1:=Qz.1 hy
  .rcases Zz h1 with h2|h2
   .exact kO y (Qz.2 (.inl h2))
   .rw[h2];exact hb
  .exact kO y (Qz.2 (.inr h1))
 .refine(hQ.mono λk _ h=> .inl h).trans (q.mono λk _ h=> ?_);obtain rfl|rfl:=h
  .exact .inr (.inl rfl)
  .exact .inr (.inr (.inr (.inl rfl)))
def F4(w:Wo)(xb tb pb g0 g1 h0 h1 c0 c1 cb mb:Nat)(x:fk)(h:fA w xb tb pb g0 g1 h0 h1 c0 c1 cb mb x)(i:Nat)(hi:i<x.ag.length):
  Calls prog 98 #[xb,ac 0,ac i] w (iF (ac (x.place false i).1) λw' =>fA w' xb tb pb g0 g1 h0 h1 c0 c1 cb mb (x.place false i).2/\aG (PS pb tb cb mb g0 g1 h0 h1) w w') :=by
 have pt:=h.apart;obtain⟨x0,-,x2⟩:=ra h.gm.own;have⟨a,ha⟩:=eX (x.ag.getD i 0);have y1:=h.gm.r0.cell (j:=i) (u:= ac a) zcS;have BN:0<=a:=by rw[ha,bE _ _ _ hi];exact h.pos _ (Qz.2 (.inl (QI hi)))
 have⟨n,hn⟩:=eX x.ag.length;rw[<-hn] at x2 hi;have H:=aa h;have JS:=aa pt;have Hn:=dK hn hi;have k7:=Xh i;have k8:=Xi.2 hi;have k9:=hi;have⟨t1,Ex⟩:=eX (if a=0 then x.t else(x.t.down a.toNat).2);have⟨r,hr⟩:=eX (t1.take 2 x.next);have hlen:t1.len=x.t.len:=by
  rw[Ex];split
  .rfl
  .exact aE.vh _ _
 have gK:=aE.lM t1 x.next h.n2 (hlen▸h.nl);rw[<-hr] at gK;have dh:x.place false i=(r.2.1,{x with t:=r.2.2.1,next:=r.2.2.2,ag:=x.ag.set i r.1,pp:=x.pp.set i true}):=by unfold fk.place;simp only[Xn,Qgf];rw[<-ha,<-Ex,<-hr]
 rw[dh];have Hf:=Ba hlen gK.1 gK.2.1 gK.2.2.1 gK.2.2.2.1;clear h pt hn hi dh hlen gK;change Af _ at Ex hr ha;go_in;go_upto_if 20 with fail;go_cut [3] from 20 to 27 (λ_ wx=>Af (bf wx tb cb mb t1/\aG (TS tb cb mb) w wx))
 .by_cases It:a=0
  .have jr:(a !=0)=false:=(by rw[It];rfl);have e1:Af (t1=x.t):=(by show _=_;rw[Ex.o,Xo It]);clear It;go_wp2;go_meet
   .exact⟨by rw[e1.o];exact H.o.fh,aG.refl _ _⟩
  .have jr:(a !=0)=true:=(by simp[It]);have e1:Af (t1=(x.t.down a.toNat).2):=(by show _=_;rw[Ex.o,Xd It]);have hD:=sa w tb cb mb x.t H.o.fh a.toNat;rw[Xp BN] at hD;have HD:=aa hD;clear It hD;go_wp2_with(go_at_call 169;refine rY HD.o λW2 t2 q2=> ?_;have T2:=aa t2;have Q2:=aa q2;clear t2 q2);go_meet
   .exact⟨by rw[e1.o];exact T2.o,Q2.o⟩
 .have T1:=aa hcut.p1;have C1:Af (aG (λk=>k=pb\/TS tb cb mb k) w wc):=hcut.q1.mono λk _ h=> .inr h;have Tw:¬TS tb cb mb pb:=by
   have a1:=H.o.pick.ne H.o.fh.own Fd;have a2:=H.o.pick.ne H.o.fh.counts Fd;have a3:=H.o.pick.bS H.o.fh.kept;rintro(e|e|e)
   .exact a1 e
   .exact a2 e
   .exact a3 e
  have hP1:=H.o.pick.aL hcut.q1 Tw;have hk:=qK wc pb tb cb mb 2 x.next t1 hP1 T1.o H.o.n2 (Hf.p1▸H.o.nl);rw[<-hr.o] at hk;have HK:=aa hk;have z1:=(H.o.gm.own.aL C1.o (JS.o xb (.inl rfl))).j1;clear hk hP1 Tw hcut x0 y1 x2;go_upto_region 5 with(go_at_call 124;refine HK.o.mono ?_;rintro e W3 ⟨rfl,t3,p3,q3⟩;obtain⟨T3,P3,Q3⟩:=qC t3 p3 (C1.o.trans q3);clear t3 p3 q3);have S3:=aa (H.o.gm.aL Q3.o (JS.o xb (.inl rfl)) (JS.o g0 (.inr (.inl rfl))) (JS.o g1 (.inr (.inr (.inl rfl)))) (JS.o h0 (.inr (.inr (.inr (.inl rfl))))) (JS.o h1 (.inr (.inr (.inr (.inr rfl))))));obtain⟨-,-,x2,-,x4⟩:=cL5 S3.o.own;rw[<-Hn.p1] at x2 x4;have z2:=S3.o.r0.cell zby;have z3:=S3.o.p0.cell (by rw[Qt,Qf (by rw[H.o.gm.lp,<-Hn.p1];exact Hn.q1),<-bE _ _ false];rfl);have f2:=S3.o.r0.free i;have f3:=S3.o.p0.free i;have pZ:=S3.o.r0.ne S3.o.own Fd;have hhx:=S3.o.p0.ne S3.o.own Fd;have hgh:=iC S3.o.r0 S3.o.p0 Fd;have HK3:=aa (F3 w W3 xb tb pb g0 g1 h0 h1 c0 c1 cb mb x i r.1 r.2.2.1 r.2.2.2 S3.o T3.o P3.o Q3.o Hf.p3 (Hf.p2▸Hf.p4) H.o.pos Hf.q4);clear HK C1 BN T1;go_region_held3 (λW=>W.cell? (an xb 2)=some (el g0 0 n c0)/\W.cell? (an xb 4)=some (el h0 0 n n)) (first|with_reducible exact⟨x2,x4⟩|go_keep) (fail);exact zgg
def FZ(w W3:Wo)(xb tb pb g0 g1 h0 h1 c0 c1 cb mb:Nat)(x:fk)(i:Nat)(b:Int)(t:aE)(next:Nat)(hS:nj W3 xb tb pb g0 g1 h0 h1 c0 c1 x)(hT:bf W3 tb cb mb t)(hP:aq W3 pb 131 (iX tb 2 next))
  (hQ:aG (λk=>k=pb\/TS tb cb mb k) w W3) (yW:2<=next) (oc:next<=t.len) (kO:∀y∈x.ag++x.au,0<=y) (hb:0<=b):
  ∀W,W.heap=((W3.setCell (an g1 i) (ac b)).setCell (an h1 i) true).heap->W.os=W3.os->W.tape=W3.tape->W.output=W3.output->fA W xb tb pb g0 g1 h0 h1 c0 c1 cb mb {x with t:=t,next:=next,au:=x.au.set i b,pd:=x.pd.set i true}/\aG (PS pb tb cb mb g0 g1 h0 h1) w W:=by
 have dh:fA W3 xb tb pb g0 g1 h0 h1 c0 c1 cb mb {x with t:=t,next:=next}:=⟨⟨hS.own,hS.r0,hS.r1,hS.p0,hS.p1,hS.SX,hS.SW,hS.lp,hS.ld,hS.pV,hS.jb,hS.n0,hS.n1⟩,hT,hP,yW,oc,kO⟩;have pt:=dh.apart;have pZ:=hS.r1.ne hS.own Fd;have hhx:=hS.p1.ne hS.own Fd;have ngh:=iC hS.r1 hS.p1 Fd;have nog:=iC hS.r1 hS.p0 Fd;have noh:=iC hS.r0 hS.p1 Fd;intro W hW ho ht hu;have q:aG (λk=>k=g1\/k=h1) W3 W:=by refine⟨ho,ht,hu,by rw[hW];simp,λk hk hn=> ?_⟩;exact zfG
 have hg:Rw W g1 3 ((x.au.set i b).map (.int .i64)):=by have h1:=(hS.r1.set i (ac b)).az (p:=an h1 i) ngh true;exact zfq
 have hh:Rw W h1 4 ((x.pd.set i true).map .bool):=by have h1:=(hS.p1.az (p:=an g1 i) (Xm ngh) (ac b)).set i true;exact zfq
 have AR:=hS.r0.aL q (by
  have:=hS.SX;rintro(e|e)
  .exact this Mx
  .exact noh e)
 have ZO:=hS.p0.aL q (by
  have:=hS.SW;rintro(e|e)
  .exact nog e.symm
  .exact this Mx)
 have hx:=hS.own.aL q zbE;have hn:∀k,(k=pb\/TS tb cb mb k)->¬(k=g1\/k=h1):=λk hk he=>pt k Mx hk;have hl:(x.au.set i b).length=x.au.length:=Zy;have rf:(x.pd.set i true).length=x.pd.length:=Zy;refine⟨⟨?_,hT.aL q (hn tb (.inr (.inl rfl))) (hn cb (.inr (.inr (.inl rfl)))) (hn mb (.inr (.inr (.inr rfl)))),hP.aL q (hn pb (.inl rfl)),yW,oc,?_⟩,?_⟩
 .exact zeb
 .intro y hy;obtain h1|h1:=Qz.1 hy
  .exact kO y (Qz.2 (.inl h1))
  .rcases Zz h1 with h2|h2
   .exact kO y (Qz.2 (.inr h2))
   .rw[h2];exact hb
 .refine(hQ.mono λk _ h=> .inl h).trans (q.mono λk _ h=> ?_);obtain rfl|rfl:=h
  .exact .inr (.inr (.inl rfl))
  .exact .inr (.inr (.inr (.inr rfl)))
def F2(w:Wo)(xb tb pb g0 g1 h0 h1 c0 c1 cb mb:Nat)(x:fk)(h:fA w xb tb pb g0 g1 h0 h1 c0 c1 cb mb x)(i:Nat)(hi:i<x.au.length):
  Calls prog 98 #[xb,ac 1,ac i] w (iF (ac (x.place true i).1) λw' =>fA w' xb tb pb g0 g1 h0 h1 c0 c1 cb mb (x.place true i).2/\aG (PS pb tb cb mb g0 g1 h0 h1) w w') :=by
 have pt:=h.apart;obtain⟨x0,-,-,x2⟩:=mm h.gm.own;have⟨a,ha⟩:=eX (x.au.getD i 0);have y1:=h.gm.r1.cell (j:=i) (u:= ac a) zcS;have BN:0<=a:=by rw[ha,bE _ _ _ hi];exact h.pos _ (Qz.2 (.inr (QI hi)))
 have⟨n,hn⟩:=eX x.au.length;rw[<-hn] at x2 hi;have H:=aa h;have JS:=aa pt;have Hn:=dK hn hi;have k7:=Xh i;have k8:=Xi.2 hi;have k9:=hi;have⟨t1,Ex⟩:=eX (if a=0 then x.t else(x.t.down a.toNat).2);have⟨r,hr⟩:=eX (t1.take 2 x.next);have hlen:t1.len=x.t.len:=by
  rw[Ex];split
  .rfl
  .exact aE.vh _ _
 have gK:=aE.lM t1 x.next h.n2 (hlen▸h.nl);rw[<-hr] at gK;have dh:x.place true i=(r.2.1,{x with t:=r.2.2.1,next:=r.2.2.2,au:=x.au.set i r.1,pd:=x.pd.set i true}):=by unfold fk.place;simp only[Qdx];rw[<-ha,<-Ex,<-hr]
 rw[dh];have Hf:=Ba hlen gK.1 gK.2.1 gK.2.2.1 gK.2.2.2.1;clear h pt hn hi dh hlen gK;change Af _ at Ex hr ha;go_in;go_upto_if 20 with fail;go_cut [3] from 20 to 27 (λ_ wx=>Af (bf wx tb cb mb t1/\aG (TS tb cb mb) w wx))
 .by_cases It:a=0
  .have jr:(a !=0)=false:=(by rw[It];rfl);have e1:Af (t1=x.t):=(by show _=_;rw[Ex.o,Xo It]);clear It;go_wp2;go_meet
   .exact⟨by rw[e1.o];exact H.o.fh,aG.refl _ _⟩
  .have jr:(a !=0)=true:=(by simp[It]);have e1:Af (t1=(x.t.down a.toNat).2):=(by show _=_;rw[Ex.o,Xd It]);have hD:=sa w tb cb mb x.t H.o.fh a.toNat;rw[Xp BN] at hD;have HD:=aa hD;clear It hD;go_wp2_with(go_at_call 169;refine rY HD.o λW2 t2 q2=> ?_;have T2:=aa t2;have Q2:=aa q2;clear t2 q2);go_meet
   .exact⟨by rw[e1.o];exact T2.o,Q2.o⟩
 .have T1:=aa hcut.p1;have C1:Af (aG (λk=>k=pb\/TS tb cb mb k) w wc):=hcut.q1.mono λk _ h=> .inr h;have Tw:¬TS tb cb mb pb:=by
   have a1:=H.o.pick.ne H.o.fh.own Fd;have a2:=H.o.pick.ne H.o.fh.counts Fd;have a3:=H.o.pick.bS H.o.fh.kept;rintro(e|e|e)
   .exact a1 e
   .exact a2 e
   .exact a3 e
  have hP1:=H.o.pick.aL hcut.q1 Tw;have hk:=qK wc pb tb cb mb 2 x.next t1 hP1 T1.o H.o.n2 (Hf.p1▸H.o.nl);rw[<-hr.o] at hk;have HK:=aa hk;have z1:=(H.o.gm.own.aL C1.o (JS.o xb (.inl rfl))).j1;clear hk hP1 Tw hcut x0 y1 x2;go_upto_region 5 with(go_at_call 124;refine HK.o.mono ?_;rintro e W3 ⟨rfl,t3,p3,q3⟩;obtain⟨T3,P3,Q3⟩:=qC t3 p3 (C1.o.trans q3);clear t3 p3 q3);have S3:=aa (H.o.gm.aL Q3.o (JS.o xb (.inl rfl)) (JS.o g0 (.inr (.inl rfl))) (JS.o g1 (.inr (.inr (.inl rfl)))) (JS.o h0 (.inr (.inr (.inr (.inl rfl))))) (JS.o h1 (.inr (.inr (.inr (.inr rfl))))));obtain⟨-,-,-,x2,-,x4⟩:=cL6 S3.o.own;rw[<-Hn.p1] at x2 x4;have z2:=S3.o.r1.cell zby;have z3:=S3.o.p1.cell (by rw[Qt,Qf (by rw[H.o.gm.ld,<-Hn.p1];exact Hn.q1),<-bE _ _ false];rfl);have f2:=S3.o.r1.free i;have f3:=S3.o.p1.free i;have pZ:=S3.o.r1.ne S3.o.own Fd;have hhx:=S3.o.p1.ne S3.o.own Fd;have hgh:=iC S3.o.r1 S3.o.p1 Fd;have HK3:=aa (FZ w W3 xb tb pb g0 g1 h0 h1 c0 c1 cb mb x i r.1 r.2.2.1 r.2.2.2 S3.o T3.o P3.o Q3.o Hf.p3 (Hf.p2▸Hf.p4) H.o.pos Hf.q4);clear HK C1 BN T1;go_region_held3 (λW=>W.cell? (an xb 3)=some (el g1 0 n c1)/\W.cell? (an xb 5)=some (el h1 0 n n)) (first|with_reducible exact⟨x2,x4⟩|go_keep) (fail);exact zgg
variable{p:Nat -> Bool}{k n:Nat}
def fA.on{w' :Wo}{xb tb pb g0 g1 h0 h1 c0 c1 cb mb:Nat}(h:fA w xb tb pb g0 g1 h0 h1 c0 c1 cb mb x)(hb:ci w w'):fA w' xb tb pb g0 g1 h0 h1 c0 c1 cb mb x:=
 ⟨h.gm.on hb,h.fh.on hb,h.pick.on hb,h.n2,h.nl,h.pos⟩
def vO(hk:k<n)(hp:p k=true)(h:∀j,j<k->p j=false):(range n).find? p=some k:=by rw[List.find?_range_eq_some];exact⟨hp,Zm.2 hk,λj hj=>by rw[h j hj];rfl⟩
def rX(h:∀j,j<n->p j=false):(range n).find? p=none:=by rw[Qfi];intro j hj;rw[h j (Zm.1 hj)];simp
def kc(x:fk):List Va:=
 match x.fst with
 |some (false,i)=>[.int .i64 0,.int .i64 i]
 |some (true,i)=>[.int .i64 1,.int .i64 i]
 |none=>[.int .i64 (-1),.int .i64 (-1)]
def LI(hk:k<x.ag.length)(hp:x.fU k=true)(h:∀j,j<k->x.fU j=false):x.fst=some (false,k):=by rw[fk.fst,vO hk hp h]
def RQ(h0:∀j,j<x.ag.length->x.fU j=false)(hk:k<x.au.length)(hp:x.gH k=true)(h:∀j,j<k->x.gH j=false):x.fst=some (true,k):=by rw[fk.fst,rX h0,vO hk hp h]
def RP(h0:∀j,j<x.ag.length->x.fU j=false)(h1:∀j,j<x.au.length->x.gH j=false):x.fst=none:=by rw[fk.fst,rX h0,rX h1]
def Ry{b o:Nat}{x0 x1:Va}(h0:jp w b o x0)(h1:jp w b (o+1) x1):(Instr.loadAt 177 (ro b o)).run prog w= .ok (.agg #[x0,x1]) w:=by
 have hl:=Qay (P:=prog) w (an b o) [x0,x1] (λj v hj=>by
  rw[dP]
  match j,hj with
  |0,hj=>cases hj;exact h0
  |1,hj=>cases hj;exact h1
  |j+2,hj=>simp at hj)
 simp only[QF,Xq,QR,Nat.reduceAdd] at hl;have h2:(isAgg 177).run prog w= .ok true w:=KJ;have h3:(sizeOf 177).run prog w= .ok 2 w:=KJ;exact zeE
def amZ(W:Wo)(a b:Va):(Instr.index 177 (.agg #[a,b]) (ac 0)).run prog W= .ok a W:=KJ
def amY(W:Wo)(a b:Va):(Instr.index 177 (.agg #[a,b]) (ac 1)).run prog W= .ok b W:=KJ
def Rq(w:Wo)(nb xb tb pb g0 g1 h0 h1 c0 c1 cb mb:Nat)(x:fk)(h:fA w xb tb pb g0 g1 h0 h1 c0 c1 cb mb x)(hb:aq w nb 175 [xb])(oR:∀i,i<x.au.length->61*i<x.ag.length):
  Calls prog 96 #[nb] w (iF (.tuple (kc x).toArray) λw' =>ci w w') :=by
 have n0:=hb.j0;obtain⟨HL,NH,El,Hnb⟩:=rx (Ry (h.gm.own.j2) (h.gm.own.j3)) (λ(W:Wo) (hW:ci w W) (i:Nat) (hi:i<x.ag.length)=>Fv W xb tb pb g0 g1 h0 h1 c0 c1 cb mb x (h.gm.on hW) (h.fh.on hW) i hi) (λ(W:Wo) (hW:ci w W) (i:Nat) (hi:i<x.au.length)=>Fu W xb tb pb g0 g1 h0 h1 c0 c1 x (h.gm.on hW) i hi (oR i hi)) (λ(W:Wo) (hW:ci w W)=>(hW.cell (p:=ol nb) hb.lt).trans n0);have⟨np,ei⟩:=eX x.ag.length;have⟨nd,im⟩:=eX x.au.length;rw[<-ei] at NH HL;rw[<-im] at El HL;have Hn:=kH ei im (by have:=h.gm.n0;omega:np<=2000) (by have:=h.gm.n1;omega:nd<=2000);clear h hb oR ei im;go_in;go_wp2_with((with_reducible refine wl_load _ _ ?_ HL.o ?_);(·rfl);go_frame);clear HL;go_loopw [10] (λkk wr=>∃k:Nat,kk= ac k/\Af (k<=2/\ci w wr/\(1<=k->∀j,j<np->x.fU j=false)/\(2<=k->∀j,j<nd->x.gH j=false))) (λkk _=>2 - (intOf kk).toNat)
 .exact⟨0,rfl,Fd,pi,λh=>absurd h Fd,λh=>absurd h Fd⟩
 .obtain⟨k,rfl,HR⟩:=hrel;have hk:=HR.p1;obtain h|h:=Qae k 1
  .obtain rfl:k=0:=(by omega);have ix:=amZ wr (el g0 0 np c0) (el g1 0 nd c1);have mV:=aa HR.p2;clear n0 h hk HR;rw[show((0:Nat):Int)=(0:Int) from rfl];go_wp2;go_loopw [16] (λii wx=>∃j:Nat,ii= ac j/\Af (j<=np/\ci w wx/\∀q,q<j->x.fU q=false)) (λii _=>np - (intOf ii).toNat)
   .exact⟨0,rfl,lm,mV.o,λq h=>absurd h (Qew _)⟩
   .obtain⟨j,rfl,HJ⟩:=hrel;by_cases aJ:j<np
    .have hi:=Xi.2 aJ;have hn:=Hnb.o wr HJ.p2;have HW:=aa (NH.o wr HJ.p2 j aJ);have fp:wrap64 ((j:Int)+1)=(j:Int)+1:=(by unfold wrap64;have:=Hn.o;omega);have eu:=aa fp;have bj:=aa aJ;clear aJ;cases hwt:x.fU j with
     |true=>
      rw[hwt] at HW;have Hwt:=aa hwt;clear hwt;go_wp2_with(go_at_call 97;refine Pe HW.o λW2 B2=> ?_);go_ret2;refine⟨?_,Pd HJ.p2 B2.o⟩;rw[kc,LI (Hn.p1▸bj.o) Hwt.o HJ.q2];rfl
     |false=>
      rw[hwt] at HW;have Hwt:=aa hwt;clear hwt;go_wp2_with(go_at_call 97;refine Pe HW.o λW2 B2=> ?_);go_roundw
      .refine⟨j+1,xh,bj.o,Pd HJ.p2 B2.o,λq hq=> ?_⟩;obtain h|h:=Nat.lt_succ_iff_lt_or_eq.1 hq
       .exact HJ.q2 q h
       .rw[h];exact Hwt.o
      .exact wn
    .have tC:j=np:=(by have:=HJ.p1;omega);have hi:¬(j:Int)<np:=λh=>aJ (Xi.1 h);have Hj:=aa tC;clear aJ tC;go_wp2;go_roundw
     .exact⟨1,rfl,Fd,HJ.p2,λ_ q hq=>HJ.q2 q (Hj.o▸hq),λh=>absurd h Fd⟩
     .decide
  .rcases Qae k 2 with h' |h'
   .obtain rfl:k=1:=(by omega);have ix:=amY wr (el g0 0 np c0) (el g1 0 nd c1);have mV:=aa HR.p2;have HP:=aa (HR.p3 go);clear n0 h h' hk HR;rw[show((1:Nat):Int)=(1:Int) from rfl];go_wp2;go_loopw [16] (λii wx=>∃j:Nat,ii= ac j/\Af (j<=nd/\ci w wx/\∀q,q<j->x.gH q=false)) (λii _=>nd - (intOf ii).toNat)
    .exact⟨0,rfl,lm,mV.o,λq h=>absurd h (Qew _)⟩
    .obtain⟨j,rfl,HJ⟩:=hrel;by_cases aJ:j<nd
     .have hi:=Xi.2 aJ;have hn:=Hnb.o wr HJ.p2;have HW:=aa (El.o wr HJ.p2 j aJ);have fp:wrap64 ((j:Int)+1)=(j:Int)+1:=(by unfold wrap64;have:=Hn.o;omega);have eu:=aa fp;have bj:=aa aJ;clear aJ;cases hwt:x.gH j with
      |true=>
       rw[hwt] at HW;have Hwt:=aa hwt;clear hwt;go_wp2_with(go_at_call 97;refine PP HW.o ?_);go_ret2;refine⟨?_,HJ.p2⟩;rw[kc,RQ (λq hq=>HP.o q (Hn.p1▸hq)) (Hn.p2▸bj.o) Hwt.o HJ.q2];rfl
      |false=>
       rw[hwt] at HW;have Hwt:=aa hwt;clear hwt;go_wp2_with(go_at_call 97;refine PP HW.o ?_);go_roundw
       .refine⟨j+1,xh,bj.o,HJ.p2,λq hq=> ?_⟩;obtain h|h:=Nat.lt_succ_iff_lt_or_eq.1 hq
        .exact HJ.q2 q h
        .rw[h];exact Hwt.o
       .exact wn
     .have tC:j=nd:=(by have:=HJ.p1;omega);have hi:¬(j:Int)<nd:=λh=>aJ (Xi.1 h);have Hj:=aa tC;clear aJ tC;go_wp2;go_roundw
      .exact⟨2,rfl,Fd,HJ.p2,λ_=>HP.o,λ_ q hq=>HJ.q2 q (Hj.o▸hq)⟩
      .decide
   .obtain rfl:k=2:=(by omega);have fF:=aa HR.q1;clear n0 h h' hk HR;go_wp2;go_ret2;refine⟨?_,fF.p1⟩;rw[kc,RP (λq hq=>fF.p2 Fd q (Hn.p1▸hq)) (λq hq=>fF.q2 Fd q (Hn.p2▸hq))];rfl
variable{a b:Int}
def OD(w:Wo)(x:Int):Calls prog 155 #[ip x] w (iF false λw' =>w=w') :=by go_in;go_wp2;exact vl
def OE(w:Wo)(x:Int):Calls prog 156 #[gc x] w (iF false λw' =>w=w') :=by go_in;go_wp2;exact vl
def Ju(h:a<b):mK a b= -1:=by rw[mK,Xo h]
def Jv(h:b<a):mK a b=1:=by rw[mK,Xd Mx,Xo h]
def Jw(a:Int):mK a a=0:=by rw[mK,Xd Mx,Xd Mx]
def yN(w:Wo)(a b:Int):Calls prog 85 #[ip a,ip b] w (iF (ac (mK a b)) λw' =>w=w') :=by
 obtain h|h|h:=Int.lt_trichotomy a b
 .rw[Ju h];go_in;go_wp2_with(go_at_call 155;refine PP (OD _ _) ?_);exact vl
 .subst h;rw[Jw];go_in;go_wp2_with(go_at_call 155;refine PP (OD _ _) ?_);exact vl
 .have h2:¬a<b:=by omega
  rw[Jv h];go_in;go_wp2_with(go_at_call 155;refine PP (OD _ _) ?_);exact vl
def yO(w:Wo)(a b:Int):Calls prog 86 #[gc a,gc b] w (iF (ac (mK a b)) λw' =>w=w') :=by
 obtain h|h|h:=Int.lt_trichotomy a b
 .rw[Ju h];go_in;go_wp2_with(go_at_call 156;refine PP (OE _ _) ?_);exact vl
 .subst h;rw[Jw];go_in;go_wp2_with(go_at_call 156;refine PP (OE _ _) ?_);exact vl
 .have h2:¬a<b:=by omega
  rw[Jv h];go_in;go_wp2_with(go_at_call 156;refine PP (OE _ _) ?_);exact vl
def Sx(x y:Int):Int:=if x≠0 then x else y
def zw(w:Wo)(g:Nat)(x y:Int)(h0:w.cell? g=some (ac x))(h1:jp w g 1 (ac y)):
  Calls prog 84 #[el g 0 2 2] w (iF (ac (Sx x y)) λw' =>w=w') :=by
 go_in;go_wp2;go_loopw [8] (λi wr=>∃k:Nat,k<=2/\i= ac k/\wr=w/\(1<=k->x=0)/\(2<=k->y=0)) (λi _=>2 - (intOf i).toNat)
 .exact⟨0,Fd,rfl,rfl,λh=>Mx,λh=>Mx⟩
 .obtain⟨k,hk,rfl,rfl,hx,hy⟩:=hrel;rcases(show k=0\/k=1\/k=2 by omega) with rfl|rfl|rfl
  .clear hx hy hk;by_cases hx:x=0
   .subst hx;go_wp2;go_roundw
    .exact⟨1,Fd,zac,Sv,λ_=>Sv,λh=>Mx⟩
    .simp[intOf]
   .have hb:(x !=0)=true:=(by rw[bne,Xc hx];rfl);have ho:Af (Sx x y=x):=(by show _=_;rw[Sx,Xo hx]);go_wp2;go_ret;exact⟨zdF,rfl⟩
  .have gd:=hx Fd;clear hx hy hk;subst gd;have ho:Af (Sx 0 y=y):=(by show _=_;rw[Sx,Xd Fd]);by_cases hy:y=0
   .subst hy;go_wp2;go_roundw
    .exact⟨2,Fd,zac,Sv,λ_=>Sv,λ_=>Sv⟩
    .simp[intOf]
   .have hb:(y !=0)=true:=(by rw[bne,Xc hy];rfl);go_wp2;go_ret;exact⟨zdF,rfl⟩
  .have gd:=hx Fd;have hy0:=hy Fd;subst gd;subst hy0;clear hx hy hk;go_wp2;exact vl
def Jf(a b:aD):fO a b=Sx (mK a.print b.print) (mK a.block b.block):=rfl
def Lc(w:Wo)(a b:aD):
  Calls prog 188 #[.agg #[ip a.print,gc a.block],.agg #[ip b.print,gc b.block]] w (iF (ac (fO a b)) λw' =>ci w w') :=by
 obtain⟨p,u⟩:=a;obtain⟨q,v⟩:=b;simp only;have⟨W1,aW⟩:=eX (qr (qr w #[ip p,gc u] 29) #[ip q,gc v] 29);have R1:Af (aq W1 w 29 [ip p,gc u]):=by show _=_;rw[aW];exact dx w _ _
 have R2:Af (aq W1 (w.heap.size+1) 29 [ip q,gc v]):=by show _=_;rw[aW];exact cL w _ _
 have B1:Af (ci w W1):=JQ;have SR:=aW.symm;obtain⟨x0,x1⟩:=gh R1.o;obtain⟨y0,y1⟩:=gh R2.o;obtain⟨C1,C2,ho⟩:=qC (λW=>yN W p q) (λW=>yO W u v) (Jf ⟨p,u⟩ ⟨q,v⟩);simp only at ho;generalize mK p q=c1 at*;generalize mK u v=c2 at*;have HOr:Af (∀W:Wo,Calls prog 84 #[el W 0 2 2] (qr W #[ac c1,ac c2] 3) (iF (ac (Sx c1 c2)) λw' =>qr W #[ac c1,ac c2] 3=w')):=λW=>OF;have HOd:Af (∀W:Wo,Calls prog 84 #[el W 0 2 2] (qr W #[ac c1,ac c2] 3).drew (iF (ac (Sx c1 c2)) λw' =>(qr W #[ac c1,ac c2] 3).drew=w')):=λW=>OF;clear aW;go_in;go_upto_region 1 with fail;go_region_held3 (λW=>W.cell? w=some (ip p)/\W.cell? (an w.heap.size 1)=some (gc u)/\W.cell? (ol (w.heap.size+1))=some (ip q)/\W.cell? (an (w.heap.size+1) 1)=some (gc v)) (first|with_reducible exact⟨x0,x1,y0,y1⟩|go_keep)
  (first
   |((go_at_call 85);(with_reducible refine(C1.o _).mono ?_);rintro e W3 ⟨rfl,rfl⟩)
   |((go_at_call 86);(with_reducible refine(C2.o _).mono ?_);rintro e W3 ⟨rfl,rfl⟩)
   |((go_at_call 84);(with_reducible refine(HOr.o _).mono ?_);rintro e W3 ⟨rfl,rfl⟩)
   |((go_at_call 84);(with_reducible refine(HOd.o _).mono ?_);rintro e W3 ⟨rfl,rfl⟩))
 all_goals
  exact zft
variable{B:Nat}{v:Va}{es:List aD}
def bX(x:Int):Prop:=0<=x/\x<4294967296
def dC(e:aD):List Va:=[.int .u64 e.print,.int .u32 e.block]
def eR(e:aD):Prop:=bI e.print/\bX e.block
def Es(w:Wo)(B:Nat)(v:Va)(es:List aD):Prop:=Sl w B 2 v es.length (es.flatMap dC)/\∀e∈es,eR e
def RU(es:List aD):(es.flatMap dC).length=es.length*2:=by
 induction es with
 |nil=>rfl
 |cons p r ih=>rw[QH,Qo,ih,QF];simp[dC];omega
def jQ:∀(es:List aD) (k:Nat) (hk:k<es.length) (j:Nat),j<2->(es.flatMap dC)[k*2+j]? =(dC es[k])[j]?
 |[],_,hk,_,_=>zcX
 |p::r,0,_,j,hj=>by
  rw[QH,Xz,QR,QN (by simpa[dC] using hj)];rfl
 |p::r,k+1,hk,j,hj=>by
  rw[QH,QM (by simp[dC];omega)];have e:(k+1)*2+j - (dC p).length=k*2+j:=by simp[dC];omega
  rw[e,jQ r k Wr j hj];rfl
def Es.cells(h:Es w B v es)(h0:0<es.length):
  ∃b o c,v= el b o es.length c/\es.length<=c/\c<=maxLen/\b<B/\∀k (hk:k<es.length),jp w b (o+k*2) (ip es[k].print)/\jp w b (o+k*2+1) (gc es[k].block):=by
 obtain⟨b,o,c,hv,hc,hm,hr⟩:=h.1.row h0;refine⟨b,o,c,hv,hc,hm,hr.1,λk hk=>⟨?_,?_⟩⟩
 .have:=hr.2 (k*2+0) _ ((jQ es k hk 0 Fd).trans rfl);exact zdO
 .have:=hr.2 (k*2+1) _ ((jQ es k hk 1 Fd).trans rfl);rw[<-XB] at this;exact this
def Es.below{w' :Wo}(h:Es w B v es)(hb:Below B w w'):Es w' B v es:=⟨h.1.below hb,h.2⟩
def Es.more{B' :Nat}(h:Es w B v es)(hB:B<=B'):Es w B' v es:=⟨h.1.more hB,h.2⟩
def U1(p q:Int)(n:Nat)(hp:bI p)(hq:bI q):bits .xor .u64 p q/2^n=(((p.toNat ^^^ q.toNat)/2^n:Nat):Int):=by obtain⟨a,rfl⟩:∃a:Nat,p=a:=⟨p.toNat,by have:=hp.1;omega⟩;obtain⟨b,rfl⟩:∃b:Nat,q=b:=⟨q.toNat,by have:=hq.1;omega⟩;rw[bits_xor_u64_nat a b (by have:=hp.2;omega) (by have:=hq.2;omega)];simp
def Mv(w:Wo)(B:Nat)(v:Va)(es:List aD)(d:Int)(h:Es w B v es)(hd:0<=d/\d<=64):
  Calls prog 189 #[v,io d] w (iF (.bool (kC es d)) λw' =>ci w w') :=by
 obtain⟨A,c,rfl,-,SF⟩:=h.1.form;cases es with
 |nil=>
  clear SF h;exact zfJ
 |cons a r=>
  have⟨L,hL⟩:=eX ((a::r).length);have hL1:1<=L:=by rw[hL];simp
  have hLn:¬(L:Int)=0:=Mx;have hLb:=Xc hLn;by_cases TI:d=0
  .subst TI;have e:Af (kC (a::r) 0=true):=rfl;rw[<-hL];clear SF h hL;go_in;go_wp2;go_ret;exact⟨by rw[e.o];rfl,pi⟩
  .have iU:=Xc TI;obtain⟨b,o,c',hv,jb,pk,hb,iH⟩:=h.cells Sv;injection hv with e1 e2 e3;subst e1;subst e3;clear e2;have h0:=(iH 0 Sv).1;have h1:=(iH (L - 1) Mx).1;rw[Xz,XC] at h0;obtain⟨z,hz⟩:∃z:aD,z=(a::r)[L - 1]' Mx:=⟨_,rfl⟩;have JC:(a::r).getLastD a=z:=(by rw[hz,List.getLastD_eq_getLast?,List.getLast?_eq_getElem?,Qf (by rw[<-hL];omega)];simp[hL]);rw[<-hz] at h1;have hoa:=h.2 a Sv;have hoz:=h.2 z (hz▸(QI _));have hE:Af (kC (a::r) d=(bits .xor .u64 a.print z.print/2^(64 - d).toNat==0)):=(by show _=_;rw[U1 _ _ _ hoa.1 hoz.1];unfold kC;simp only;rw[JC,iU,Qjd,XD,Qbq,Qbq];omega);have h0' :jp w b o (ip a.print):=h0;generalize a.print=p at*;generalize z.print=q at*;have nZ:wrap64 ((L:Int) - 1)=((L - 1:Nat):Int):=(by unfold maxLen at SF;exact vW);have hl0:((L - 1:Nat):Int)<L:=Mx;have avM:(0:Int)<L:=Mx;have fp:IntKind.u8.wrap (64 - d)=64 - d:=AI;have avP:0<=64 - d:=Mx;have⟨M,hM⟩:=eXa (L - 1);rw[<-hM] at h1 nZ hl0;rw[<-hL];clear iH h hL SF hoa hoz JC hz h0 hb hM jb pk;go_in;go_wp2;go_quiet (fail);go_wp2;go_ret;exact⟨by rw[hE.o];rfl,below_drewN pi _⟩
def uy(v:Va)(at_:Int):List Va:=[v,.int .i64 at_]
def Vl(w:Wo)(P g L c at_ s:Nat)(bs:Fr)(n:Int)(hp:aq w P 215 (uy (el g 0 L c) at_))(h:dn w g bs)(bT:P≠g)(hL:L<=bs.length)(hs:1<=s/\s<=8)(kJ:at_+s<=L)(hl:bs.length<=100000)(hn:0<=n/\n<256^s):
  Calls prog 123 #[P,ac s,ip n] w λe w' =>(∃v,e= .returned v)/\aq w' P 215 (uy (el g 0 L c) (at_+s:Nat))/\dn w' g (lB bs at_ s n)/\aG (λx=>x=P\/x=g) w w'/\w'.heap.size=w.heap.size:=by
 obtain⟨HP,HPd,Hp⟩:=qC (jM w g 0 L c at_ s bs n h Mx hs kJ hl hn) (jM w.drew g 0 L c at_ s bs n (show dn w.drew g bs from h) Mx hs kJ hl hn) hp;obtain⟨x0,x1⟩:=gh hp;have nZ:wrap64 ((at_:Int)+s)=(at_:Int)+s:=vW;clear hp hL hs kJ hl hn;change Af _ at h bT;go_in;go_wp2_with fail;go_region_held3 (λW=>W.cell? P=some (el g 0 L c)/\W.cell? (an P 1)=some (ac at_)) (first|with_reducible exact⟨x0,x1⟩|with_reducible exact q2|go_keep)
  (first
   |((go_at_call 107);(with_reducible refine HP.o.mono ?_);rintro e W2 ⟨rfl,o2,g2,s2⟩;have K2:=aa (aq.grown (w:=w) Hp.o ⟨g2.os,g2.tape,g2.output,g2.size,g2.block⟩ (by intro e;exact bT.o (Qr e)));have q2:W2.cell? P=some (el g 0 L c)/\W2.cell? (an P 1)=some (ac at_):=⟨K2.o.j0,K2.o.j1⟩;have O2:=aa o2;have G2:Af (w.grownBy W2 (some g)):=⟨g2.os,g2.tape,g2.output,g2.size,g2.block⟩;have S2:Af (W2.heap.size=w.heap.size):=s2;clear o2 g2 s2)
   |((go_at_call 107);(with_reducible refine HPd.o.mono ?_);rintro e W2 ⟨rfl,o2,g2,s2⟩;have K2:=aa (aq.grown (w:=w) Hp.o ⟨g2.os,g2.tape,g2.output,g2.size,g2.block⟩ (by intro e;exact bT.o (Qr e)));have q2:W2.cell? P=some (el g 0 L c)/\W2.cell? (an P 1)=some (ac at_):=⟨K2.o.j0,K2.o.j1⟩;have O2:=aa o2;have G2:Af (w.grownBy W2 (some g)):=⟨g2.os,g2.tape,g2.output,g2.size,g2.block⟩;have S2:Af (W2.heap.size=w.heap.size):=s2;clear o2 g2 s2))
 all_goals
  clear HP HPd x0 x1;obtain⟨x0,x1⟩:=gh K2.o;have xf:=K2.o.free 1;have K3:=aa (K2.o.set 1 (ac ((at_:Int)+s)));go_wp2_with fail;go_end0;refine⟨⟨_,rfl⟩,?_,?_,?_,?_⟩
  .exact zfW
  .have h1:=O2.o.aQ (w' :=rc W2 P 1 (ac ((at_:Int)+s))) (Xl _ _ _ _ (Xm bT.o));rw[QR] at h1;exact h1
  .exact(aG.dH G2.o (λx _ e=> .inr (Qr e).symm)).setCell (λ_=> .inl rfl) _
  .simpa using S2.o
def Vm(w:Wo)(P B:Nat)(A:GB)(L c at_ s:Nat)(body:Fr)(hp:aq w P 215 (uy (am A L c) at_))(hb:Bs w B (am A L c) body)(hs:1<=s/\s<=8)(kJ:at_+s<=body.length)(hl:body.length<=100000):
  Calls prog 137 #[P,ac s] w (iF (ip (cK body at_ s)) λw' =>aq w' P 215 (uy (am A L c) (at_+s:Nat))/\aG (λx=>x=P) w w'/\w'.heap.size=w.heap.size):=by
 obtain⟨HP,HPd,Hp,Hpd⟩:=rx (lf w B _ body hb at_ s hs kJ hl) (lf w.drew B _ body ⟨hb.1.drew,hb.2⟩ at_ s hs kJ hl) hp hp;obtain⟨x0,x1⟩:=gh hp;have nZ:wrap64 ((at_:Int)+s)=(at_:Int)+s:=vW;generalize cK body at_ s=z at*;clear hp hb hs kJ hl;go_in;go_wp2;go_region_held3 (λW=>W.cell? P=some (am A L c)/\W.cell? (an P 1)=some (ac at_)) (first|with_reducible exact⟨x0,x1⟩|go_keep)
  (first
   |((go_at_call 186);(with_reducible refine HP.o.mono ?_);rintro e W2 ⟨rfl,rfl⟩)
   |((go_at_call 186);(with_reducible refine HPd.o.mono ?_);rintro e W2 ⟨rfl,rfl⟩))
 all_goals
  clear HP HPd x0 x1;obtain⟨x0,x1⟩:=gh Hpd.o;have xf:=Hpd.o.free 1;have K3:=aa (Hpd.o.set 1 (ac ((at_:Int)+s)));go_wp2;go_ret;refine⟨rfl,?_,?_,?_⟩
  .exact zfW
  .exact((aG.refl (λx=>x=P) w).setCell (p:=an P 1) (λ_=>rfl) _).drew
  .simp
variable{s:ay}
def oh{L:Nat}(h:k<L):L - (intOf (ac ((k:Int)+1))).toNat<L - (intOf (ac (k:Int))).toNat:=zaK
def pI:∀l:List aD,dV l=true↔∀i (h:i+1<l.length),fO (l[i]' Mx) l[i+1]<0
 |[]=>by simp[dV]
 |[a]=>by simp[dV]
 |a::b::r=>by
  rw[dV,XR,XS,pI (b::r)];constructor
  .rintro⟨h1,h2⟩ i hi
   cases i with
   |zero=>exact h1
   |succ i=>exact h2 i zal
  .intro h;exact⟨h 0 Sv,λi hi=>h (i+1) zal⟩
def qz(e:aD):Bool:=decide (e.block≠0)&&decide (e.block<4096)
def ow(s:ay):bC s=(decide (s.depth<=64)&&decide (s.next<4096)&&decide (s.es.length<=9)&&s.es.all qz&&dV s.es&&kC s.es s.depth):=rfl
def rP(hk:k<s.es.length)(h:qz s.es[k]=false\/∃j,∃hj:j+1=k,0<=fO (s.es[j]' Mx) s.es[k]):bC s=false:=by
 rw[ow,<-Qer];simp only[XR];rintro⟨⟨⟨-,h1⟩,h2⟩,-⟩;obtain h|⟨j,rfl,h⟩:=h
 .rw[XT] at h1;rw[h1 _ (QI hk)] at h;cases h
 .rw[pI] at h2;have:=h2 j hk;omega
def FQ(hd:s.depth<=64)(hn:s.next<4096)(hl:s.es.length<=9)(hb:∀k (hk:k<s.es.length),qz s.es[k]=true/\(∀j (hj:j+1=k),fO (s.es[j]' Mx) s.es[k]<0)):bC s=kC s.es s.depth:=by
 rw[ow,Xa hd,Xa hn,Xa hl];have h1:s.es.all qz=true:=by rw[XT];intro x hx;obtain⟨k,hk,rfl⟩:=Qbu hx;exact(hb k hk).1
 have h2:=(pI _).2 λi hi=>(hb (i+1) hi).2 i rfl;rw[h1,h2];simp
def rO(w:Wo)(s:ay)(v:Va)(h:Es w w v s.es)(hd:aI s.depth)(hn:bX s.next):
  Calls prog 122 #[.agg #[io s.depth,gc s.next,v]] w (iF (.bool (bC s)) λw' =>ci w w') :=by
 obtain⟨A,c,rfl,-,SF⟩:=h.1.form;have⟨L,hL⟩:=eX s.es.length;have HL:=aa hL;have H:=aa h;rw[<-hL] at H|-;have⟨d,JO⟩:=eX s.depth;have⟨nx,j5⟩:=eX s.next;have HD:=kH JO j5 (by rw[JO];exact hd:aI d) (by rw[j5];exact hn:bX nx);rw[<-JO,<-j5];have⟨W0,aY⟩:=eX (qr w #[io d,gc nx,am A L c] 79);have R0:Af (aq W0 w 79 [io d,gc nx,am A L c]):=zaN;have B0:Af (ci w W0):=aY▸(aF _ _);obtain⟨x0,x1,x2⟩:=ra R0.o;have SR:=aY.symm;clear h hL JO j5 hd hn aY SF;by_cases eJ:64<d\/4096<=nx\/9<L
 .have hr:Af (bC s=false):=by show _=_;rw[ow,<-Qer];simp only[XR,XS];rintro⟨⟨⟨⟨⟨h1,h2⟩,h3⟩,-⟩,-⟩,-⟩;have:=HD.o;have:=HL.o;omega
  rw[hr.o];by_cases h1:64<d
  .exact zfa
  .by_cases h2:4096<=nx
   .exact zfa
   .have h3:(9:Int)<L:=(by omega);exact zfa
 .have h1:¬64<d:=by omega
  have h2:¬4096<=nx:=Mx;have h3:¬(9:Int)<L:=Mx;have HB:Af (d<=64/\nx<4096/\L<=9):=⟨Mx,Mx,Mx⟩;clear eJ;go_in;go_wp2;clear h1 h2 h3 x0 x1 x2 SR;go_loopw [22] (λi wr=>∃k:Nat,k<=L/\i= ac k/\Af (ci W0 wr/\∀j (hj:j<s.es.length),j<k->qz s.es[j]=true/\(∀i (hi:i+1=j),fO (s.es[i]' Mx) s.es[j]<0))) (λi _=>L - (intOf i).toNat)
  .exact⟨0,lm,rfl,pi,λj _ h=>absurd h (Qew j)⟩
  .obtain⟨k,hk,rfl,hK⟩:=hrel;have B1:=aa hK.p1;have HA:=aa hK.q1;clear hK;have B2:=aa (Pd B0.o B1.o);have R1:=aa (R0.o.on B1.o);obtain⟨x0,-,x2⟩:=ra R1.o;by_cases aJ:k<L
   .have bQ:k<s.es.length:=(by have:=HL.o;omega);have hkL:(k:Int)<L:=Mx;have SK:(0:Int)<=k:=Mx;obtain⟨b,o,c',hv,-,-,hb,iH⟩:=H.o.cells Mx;injection hv with e1 e2 e3;subst e1;subst e3;clear e2;have⟨ek,mF⟩:=eX (s.es[k]);have⟨ep,hep⟩:=eX (s.es[k - 1]' Mx);have e0:=(B2.o.cell (p:=an b (o+k*2)) hb).trans (iH k bQ).1;have e1:=(B2.o.cell (p:=an b (o+k*2+1)) hb).trans (iH k bQ).2;have p0:=(B2.o.cell (p:=an b (o+(k - 1)*2)) hb).trans (iH (k - 1) Mx).1;have p1:=(B2.o.cell (p:=an b (o+(k - 1)*2+1)) hb).trans (iH (k - 1) Mx).2;rw[<-mF] at e0 e1;rw[<-hep] at p0 p1;have Hp:=iJ (Qn hb B2.o.size) p0 p1;have HO:=aa (λW=>Lc W ep ek);have ej:Af (qz s.es[k]=(decide (ek.block≠0)&&decide (ek.block<4096))):=(by show _=_;rw[<-mF];rfl);obtain⟨pp,pb⟩:=ep;obtain⟨qp,qb⟩:=ek;simp only at e0 e1 HO ej Hp;obtain⟨W3,cD,-,jW⟩:=nW wr [ip qp,gc qb] 29;have R3:Af (aq W3 wr 29 [ip qp,gc qb]):=(by show _=_;rw[cD];exact ar wr _ _);have B3:=aa (Pd B1.o jW);have Hkl:=aa bQ;clear iH p0 p1 hk;change Af _ at mF hep aJ;go_upto_region 6 with fail;rw[<-cD];have z1:=cell_regrown (R3.o.j0);have z2:=cell_regrown (R3.o.j1);have z3:=cell_regrown ((R1.o.on jW).j2);have z4:=cell_regrown ((jW.cell (p:=an b (o+(k - 1)*2)) Hp.p1).trans Hp.p2);have z5:=cell_regrown ((jW.cell (p:=an b (o+(k - 1)*2+1)) Hp.p1).trans Hp.q2);have z6:=trivial;have⟨od,hod⟩:=eX (fO ⟨pp,pb⟩ ⟨qp,qb⟩);rw[<-hod] at HO;have Hod:=aa hod;have cA:∀dr os,Calls prog 188 #[.agg #[ip pp,gc pb],.agg #[ip qp,gc qb]] (Sort.grow (redrawn W3 dr) os) λe DW =>e= .returned (ac od)/\∃p:Regrown,DW =Sort.grow (redrawn W3 p.d) p.os:=λdr os=>Calls.regrown_of (HO.o _);clear e0 e1 x0 x2 hb cD jW hod;by_cases hq0:qb=0
    .subst hq0;have hr:=aa (rP Hkl.o (.inl (by rw[ej.o];simp)));refine wp_region_quiet_below KJ KJ ?_;(repeat(go_big_quiet_step (first|with_reducible exact cA _ _)));exact zcZ
    .have hqb:=Xc hq0;by_cases ZN:4096<=qb
     .have hr:=aa (rP Hkl.o (.inl (by rw[ej.o];simp;omega)));refine wp_region_quiet_below KJ KJ ?_;(repeat(go_big_quiet_step (first|with_reducible exact cA _ _)));exact zcZ
     .have hbo:Af (qz (s.es[k]'Hkl.o)=true):=(by show _=_;rw[ej.o];simp;omega);by_cases hkz:k=0
      .subst hkz;have Bv:Af (∀j (hj:j<s.es.length),j<0+1->qz s.es[j]=true/\(∀i (hi:i+1=j),fO (s.es[i]' Mx) s.es[j]<0)):=λj hj h1=>(by obtain rfl:j=0:=Mx;exact⟨hbo.o,λi hi=>Mx⟩);refine wp_region_quiet_below KJ KJ ?_;(repeat(go_big_quiet_step (first|with_reducible exact cA _ _)));refine Qdp ?_;intro _ s9;obtain⟨⟨dq,mj⟩,iM⟩:=s9;subst iM;clear cA z1 z2 z3 z4 z5 z6;have b4:=below_regrown W3 dq mj;generalize Sort.grow (redrawn W3 dq) mj=W4 at*;have B4:=aa (Pd B3.o b4);clear b4;go_wp2;go_roundw
       .exact⟨0+1,aJ.o,zac,B4.o,Bv.o⟩
       .have:=aJ.o;exact zaK
      .have tg:0<k:=(by omega);have Ed:wrap64 ((k:Int) - 1)=((k - 1:Nat):Int):=zci;have hk1:((k - 1:Nat):Int)<L:=Mx;have EX:wrap64 ((k:Int)+1)=(k:Int)+1:=zci;by_cases pj:0<=od
       .have hr:=aa (rP Hkl.o (.inr ⟨k - 1,Mx,by rw[<-hep.o,<-mF.o,<-Hod.o];exact pj⟩));refine wp_region_quiet_below KJ KJ ?_;(repeat(go_big_quiet_step (first|with_reducible exact cA _ _)));exact zcZ
       .have Bv:Af (∀j (hj:j<s.es.length),j<k+1->qz s.es[j]=true/\(∀i (hi:i+1=j),fO (s.es[i]' Mx) s.es[j]<0)):=λj hj h1=>by
         by_cases e:j=k
         .subst e;refine⟨hbo.o,λi hi=> ?_⟩;obtain rfl:i=j - 1:=(by omega);rw[<-hep.o,<-mF.o,<-Hod.o];omega
         .exact HA.o j hj Mx
        refine wp_region_quiet_below KJ KJ ?_;(repeat(go_big_quiet_step (first|with_reducible exact cA _ _)));refine Qdp ?_;intro _ s9;obtain⟨⟨dq,mj⟩,iM⟩:=s9;subst iM;clear cA z1 z2 z3 z4 z5 z6;have b4:=below_regrown W3 dq mj;generalize Sort.grow (redrawn W3 dq) mj=W4 at*;have B4:=aa (Pd B3.o b4);clear b4;go_wp2;go_roundw
        .exact⟨k+1,aJ.o,zcL,B4.o,Bv.o⟩
        .rw[EX];exact oh aJ.o
   .obtain rfl:k=L:=(by omega);have hE:=(H.o.below B2.o).more B2.o.size;have JX:=aa (Mv wr wr _ s.es d hE (by have:=HB.o;have:=HD.o.2.2.1.1;omega));have hr:Af (bC s=kC s.es d):=(by show _=_;rw[FQ (HD.p1▸HB.p1) (HD.p2▸HB.p2) (HL.o▸HB.q2) (λj hj=>HA.o j hj (HL.o▸hj)),<-HD.p1]);clear hE aJ hk;go_wp2_with(go_at_call 189;refine Pe JX.o λW3 B3=> ?_);go_ret;exact⟨zdG,Pd B2.o B3.o⟩
variable{P g:Nat}
structure sK(w:Wo)(P g L:Nat)(A:Fr)(m:Nat):Prop where
 pen:aq w P 215 (uy (.slice (some ⟨g,0,none⟩) L L) A.length)
 own:dn w g (A++List.replicate m 0)
 ne:P≠g
 len:L=A.length+m
 le:L<=10000
def sK.on{L:Nat}{A:Fr}{m:Nat}(h:sK w P g L A m)(hb:ci w w'):sK w' P g L A m:=⟨h.pen.on hb,h.own.on hb,h.ne,h.len,h.le⟩
def qF(w:Wo)(P g L:Nat)(A:Fr)(m s:Nat)(n:Int)(h:sK w P g L A m)(hs:1<=s/\s<=8)(hm:s<=m)(hn:0<=n/\n<256^s):
  Calls prog 123 #[P,ac s,ip n] w λe w' =>(∃v,e= .returned v)/\sK w' P g L (A++mH s n) (m - s)/\aG (λx=>x=P\/x=g) w w' :=by
 obtain⟨h1,h2,h3,h4,h5⟩:=h;refine(Vl w P g L L A.length s _ n h1 h2 h3 BY hs Mx BY hn).mono ?_;rintro e w' ⟨he,hp,ho,hc,-⟩;rw[nE A m s n A.length rfl] at ho;exact⟨he,⟨by rw[Qo,de];exact hp,ho,h3,by rw[Qo,de];omega,h5⟩,hc⟩
def lk{w0:Wo}{B:Nat}(hb:Below B w0 w)(hB:B<=w)(hP:B<=P)(hg:B<=g)(hc:aG (λx=>x=P\/x=g) w w'):Below B w0 w' :=
 hb.trans (hc.below hB (λx hx e=>by obtain e|e:=e<;>omega))
def E0(d L nx:Int):List Int:=(mH 1 d++mH 1 L)++mH 4 nx
def RM(d L nx:Int):(E0 d L nx).length=6:=by simp[E0,de]
def CQ(es:List aD):(es.flatMap rq).length=12*es.length:=by
 induction es with
 |nil=>rfl
 |cons p r ih=>rw[QH,Qo,ih,QF];simp[rq,de];omega
def Ml(s:ay):(mw s).length=6+12*s.es.length:=by rw[mw,Qo,Qo,CQ,de];rfl
def nU(s:ay)(hd:aI s.depth)(hl:s.es.length<=9):∀x∈mw s,aI x:=by
 intro x hx;unfold mw at hx;obtain hx|hx:=Qz.1 hx
 .rcases Qz.1 hx with hx|hx
  .simp only[QA,QV,Qiy] at hx;obtain rfl|rfl:=hx
   .exact hd
   .exact⟨Mx,Mx⟩
  .exact eW _ _ x hx
 .obtain⟨e,_,h⟩:=QT.1 hx;unfold rq at h;obtain h|h:=Qz.1 h
  .exact eW _ _ x h
  .exact eW _ _ x h
def Sk(s:ay)(hd:aI s.depth)(hl:s.es.length<=9):E0 s.depth s.es.length s.next++s.es.flatMap rq=mw s:=by unfold E0 mw;rw[abo _ hd.1 hd.2,abo _ Mx Mx];rfl
def aoa(w:Wo)(s:ay)(e:Ending)(w' :Wo):Prop:=
 (bC s=true/\Made w (encS s) e w')\/(bC s=false/\e= .returned (.tuple #[(),.int .i64 40])/\Below w w w')
def CS(w:Wo)(s:ay)(v:Va)(h:Es w w v s.es)(hd:aI s.depth)(hn:bX s.next):
  Calls prog 56 #[.agg #[io s.depth,gc s.next,v]] w (aoa w s):=by
 obtain⟨A,c,rfl,-,SF⟩:=h.1.form;have⟨L,hL⟩:=eX s.es.length;have H:=aa h;rw[<-hL] at H|-;have⟨W0,aY⟩:=eX (qr w #[io s.depth,gc s.next,am A L c] 79);have R0:Af (aq W0 w 79 [io s.depth,gc s.next,am A L c]):=zaN;have B0:Af (ci w W0):=aY▸(aF _ _);have HR:=aa (rO W0 s (am A L c) ((H.o.below B0.o).more B0.o.size) hd hn);have⟨rb,ft⟩:=eX (bC s);rw[<-ft] at HR;have HD:=dK hd hn;have⟨d,JO⟩:=eX s.depth;have⟨nx,j5⟩:=eX s.next;have HE:=dK JO j5;rw[<-JO,<-j5] at R0 HR aY|-;have SR:=aY.symm;obtain⟨x0,x1,x2⟩:=ra R0.o;clear h JO j5 hd hn aY SF;change Af _ at hL ft;cases rb with
 |false=>
  go_in;go_wp2_with(go_at_call 122;refine Pe HR.o λW1 B1=> ?_);go_ret2;exact .inr ⟨ft.o.symm,rfl,Pd B0.o B1.o⟩
 |true=>
  have hl9:L<=9:=by have h1:=ft.o.symm;rw[ow] at h1;simp only[XR,XS] at h1;have:=hL.o;omega
  have Hl9:=aa hl9;go_in;go_upto_region 3 with(go_at_call 122;refine Pe HR.o λW1 B1=> ?_);clear x0 x1 x2 SR;have⟨g,hg⟩:=eX W1.heap.size;have HG:=aa hg;have⟨M,hM⟩:=eX (6+12*L);have HM:=aa hM;have⟨W2,cE⟩:=eX (qr W1 (replicate M (io 0)).toArray 5);have yX:(Instr.makeSlice 95 (ac (M:Int)) (ac (M:Int))).run prog W1= .ok (el g 0 M M) W2:=by have:=eV underlying95 rD (eC .u8 0) Fd M Mx W1;rw[cE,hg];exact this
  have sq:ci W1 W2:=cE▸(aF _ _);have O2:Af (dn W2 g (replicate M 0)):=by have h1:aq W2 g 5 (replicate M (io 0)):=(by rw[cE,hg];exact ar _ _ _);exact aq.JZ (bs:=replicate M 0) (by rw[Qdg];exact h1)
  have⟨P,hP⟩:=eX W2.heap.size;obtain⟨W3,cD,-,jW⟩:=nW W2 [el g 0 M M,ac 0] 215;have K3:Af (sK W3 P g M [] M):=⟨by rw[cD,hP];exact ar W2 _ _,by have:=O2.o.on jW;simpa using this,by rw[hP];have:=O2.o.lt;omega,Sv,Mx⟩;have B3:=aa (Pd sq jW);have HP:Af (W1<=P/\W1<=g):=⟨by rw[hP];exact sq.size,hg▸go⟩;have R1:=aa (R0.o.on B1.o);have y2:=R1.o.j2;have nZ:wrap64 (12*(L:Int))=12*(L:Int):=vW;have fp:wrap64 (6+12*(L:Int))=(M:Int):=vW;have mT:=aa cD.symm;have HPq:=aa hP.symm;clear hg hM cE sq jW hl9 cD hP;go_upto_region 5 with fail;rw[mT.o,HPq.o];clear yX nZ fp y2;obtain⟨d0,d1⟩:=HD.p1;obtain⟨n0,n1⟩:=HD.q1;rw[<-HE.p1] at d0 d1;rw[<-HE.q1] at n0 n1;have WX:=aa (qF W3 P g M [] M 1 d K3.o Fd zbK ⟨d0,by simpa using d1⟩);have hwd:IntKind.u64.wrap d=d:=AI;have hwl:IntKind.u64.wrap (L:Int)=L:=by have:=Hl9.o;exact AI
  have Tt:IntKind.u64.wrap nx=nx:=AI;have R3:=aa (R1.o.on (B3.o));have x0:=R3.o.j0;go_upto_region 6 with(go_at_call 123;refine WX.o.mono ?_;rintro e W4 ⟨⟨v4,rfl⟩,k4,c4⟩;have K4:=aa k4;have B4:=aa (lk B3.o B3.o.size HP.p1 HP.q1 c4);clear k4 c4);have HQ2:=aa (qF W4 P g M _ _ 1 L K4.o Fd zbK ⟨Mx,by have:=Hl9.o;simp;omega⟩);have R4:=aa (R1.o.on (B4.o));clear x0 WX;have x2:=R4.o.j2;go_upto_region 7 with(go_at_call 123;refine HQ2.o.mono ?_;rintro e W5 ⟨⟨v5,rfl⟩,k5,c5⟩;have K5:=aa k5;have B5:=aa (lk B4.o B4.o.size HP.p1 HP.q1 c5);clear k5 c5);have HQ3:=aa (qF W5 P g M _ _ 4 nx K5.o Fd zbK ⟨n0,by simpa using n1⟩);have R5:=aa (R1.o.on (B5.o));clear x2 HQ2;have x1:=R5.o.j1;go_upto_region 8 with(go_at_call 123;refine HQ3.o.mono ?_;rintro e W6 ⟨⟨v6,rfl⟩,k6,c6⟩;have K6:=aa k6;have B6:=aa (lk B5.o B5.o.size HP.p1 HP.q1 c6);clear k6 c6);have K7:Af (sK W6 P g M (E0 d L nx) (12*L)):=by have h1:=K6.o;rw[QZ] at h1;rw[show M - 1 - 1 - 4=12*L by have:=HM.o;omega] at h1;exact h1
  have R6:=aa (R1.o.on (B6.o));clear x1 HQ3 hwd hwl Tt K6 R5 R4 R3;have x2:=R6.o.j2;go_wp2;clear x2;go_loopw [40] (λi wr=>∃k:Nat,k<=L/\i= ac k/\Af (sK wr P g M (E0 d L nx++(s.es.take k).flatMap rq) (12*(L - k))/\ci W1 wr)) (λi _=>L - (intOf i).toNat)
  .exact⟨0,lm,rfl,by simpa using K7.o,B6.o⟩
  .obtain⟨k,hk,rfl,hK⟩:=hrel;have K8:=aa hK.p1;have B8:=aa hK.q1;clear hK K7 B6 B5 B4;by_cases aJ:k<L
   .have bQ:k<s.es.length:=(by have:=hL.o;omega);have hkL:(k:Int)<L:=Mx;have SK:(0:Int)<=k:=Mx;have EX:wrap64 ((k:Int)+1)=(k:Int)+1:=(by have:=Hl9.o;exact vW);have B9:=aa (Pd B0.o ((Pd B1.o B8.o)));obtain⟨b,o,c',hv,-,-,hb,iH⟩:=H.o.cells Mx;injection hv with e1 e2 e3;subst e1;subst e3;clear e2;have⟨ek,mF⟩:=eX (s.es[k]);have e0:=(B9.o.cell (p:=an b (o+k*2)) hb).trans (iH k bQ).1;have e1:=(B9.o.cell (p:=an b (o+k*2+1)) hb).trans (iH k bQ).2;have tH:Af ((s.es.take (k+1)).flatMap rq=(s.es.take k).flatMap rq++rq ek):=(by show _=_;rw[XJ bQ,QP,mF];simp);have ec:eR ek:=mF▸(H.q1 _ (QI bQ));rw[<-mF] at e0 e1;obtain⟨qp,qb⟩:=ek;simp only at e0 e1;obtain⟨⟨q0,q1⟩,⟨q2,q3⟩⟩:=ec;simp only at q0 q1 q2 q3;obtain⟨W9,ED,-,hb9⟩:=nW wr [ip qp,gc qb] 29;have R9:Af (aq W9 wr 29 [ip qp,gc qb]):=(by show _=_;rw[ED];exact ar wr _ _);obtain⟨K9,oU,HW9⟩:=qC (K8.o.on hb9) (Pd B8.o hb9) ED.symm;have Hwr:=dK K8.o.pen.lt K8.o.own.lt;have hwb:IntKind.u64.wrap qb=qb:=AI;have WX:=aa (qF W9 P g M _ _ 8 qp K9.o Fd Mx ⟨q0,by simpa using q1⟩);have Hq:=dK q2 (by simpa using q3:qb<256^4);have bj:=aa aJ;clear iH mF aJ hk ED hb9 hb q0 q1 q2 q3;go_upto_region 11 with fail;rw[HW9.o];have y0:=R9.o.j0;clear e0 e1;go_upto_region 12 with(go_at_call 123;refine WX.o.mono ?_;rintro e uh ⟨⟨v10,rfl⟩,Tp,EE⟩;obtain⟨WQ,R10,Th⟩:=qC Tp (R9.o.aL EE (by have:=Hwr.o;omega)) (lk oU.o oU.o.size HP.p1 HP.q1 EE);clear Tp EE);clear y0 WX;have y1:=R10.o.j1;have HQ2:=aa (qF uh P g M _ _ 4 qb WQ.o Fd (by have:=bj.o;omega) Hq.o);go_wp2_with(go_at_call 123;refine HQ2.o.mono ?_;rintro e Bg ⟨⟨v12,rfl⟩,k12,NB⟩;have K12:=aa k12;have Ur:=aa (lk Th.o Th.o.size HP.p1 HP.q1 NB);clear k12 NB);go_roundw
    .refine⟨k+1,bj.o,zcL,?_,Ur.o⟩;have h1:=K12.o;rw[show 12*(L - k) - 8 - 4=12*(L - (k+1)) by omega,QY,QY] at h1;rw[tH.o];exact h1
    .rw[EX];exact oh bj.o
   .obtain rfl:k=L:=(by omega);have h1:=K8.o.own.bs (o:=0) (n:=M) (c:=M) (by rw[Qo,Qo,RM,CQ,QK,Qu];have:=HM.o;have:=hL.o;omega) go (by have:=HM.o;have:=Hl9.o;unfold maxLen;omega);have mG:E0 d k nx++(s.es.take k).flatMap rq++replicate (12*(k - k)) 0=mw s:=(by rw[XE,Nat.mul_zero,Qcx,Zi,hL.o,XU,HE.p1,HE.q1];exact Sk s HD.p1 zdm);rw[mG] at h1;have h2:=h1 (nU s HD.p1 zdm);have fg:(mw s).length=M:=(by rw[Ml];have:=HM.o;have:=hL.o;omega);rw[Zl,Qj Mx] at h2;have HS:=aa (uY wr 3 _ (mw s) ⟨Fd,Fd⟩ h2 (by have:=HM.o;have:=Hl9.o;omega));have y0:=K8.o.pen.j0;have Hr1:=aa (Pd B0.o ((Pd B1.o B8.o)));clear h1 h2 mG fg aJ hk;go_wp2_with(go_at_call 108;refine rY HS.o λW9 o9 b9=> ?_;have O9:=aa o9;have B9:=aa b9;clear o9 b9);go_ret2;exact .inl ⟨ft.o.symm,wr.heap.size,Hr1.o.size,rfl,O9.o,Pd Hr1.o B9.o⟩
variable{t:Fy}{x0 x1 x2:Va}
def aq.not_row{cs:Ox}(h:aq w g t cs)(JG:t≠e){base sz n:Nat}{v:Va}{xs:Ox}(hr:w.ownsRow base e sz v n xs):v.ownBlock≠some g:=by
 intro he;rcases hr.2 with⟨rfl,_⟩|⟨g',cap,cur,rfl,_,hb,_⟩
 .cases he
 .have e1:=Qr he;subst e1;have h0:=h;rw[h0] at hb;have:=Qr hb;simp at this;exact JG this.2
def IL:(prog.info? 29).map (λi=>(i.zero,i.size,i.bytes))=some (some (.agg #[ip 0,gc 0]),2,16):=KJ
def gU{b:Nat}(h:aq w b 79 [x0,x1,x2]):(loadVar 79 (ol b)).run prog w= .ok (.agg #[x0,x1,x2]) w:=by obtain⟨h0,h1,h2⟩:=ra h;simp[go_sem,h0,h1,h2]
def cG{P:ST}{fn:Func}{p:Tmp}{u:Tmp}{a:Addr}{tmps:Zvv}{x:Va}(h:fn.results= #[.cell p t,.tmp u])(hp:tmps.getD p undef= .pointer (some a))(hl:(loadVar t a).run P w= .ok x w):
  (results fn tmps).run P w= .ok (.tuple #[x,tmps.getD u undef]) w:=by
 exact zfp
def aq.JY(h:aq w g e [x0,x1,x2])(y0 y1 y2:Va):aq (((w.setCell (ol g) y0).setCell (an g 1) y1).setCell (an g 2) y2) g e [y0,y1,y2]:=((h.set 0 y0).set 1 y1).set 2 y2
def shV(d n:Int)(v:Va):Va:= .agg #[.int .u8 d,.int .u32 n,v]
def cV(w:Wo)(base:Nat)(v:Va)(es:List aD):Prop:=w.ownsRow base 29 2 v es.length (es.flatMap dC)
def ShR(w:Wo)(p:Fr)(e:Ending)(w' :Wo):Prop:=
 Below w w w'/\((mJ p=none/\e= .returned (.tuple #[shV 0 0 (),.int .i64 40]))\/∃s v,mJ p=some s/\e= .returned (.tuple #[shV s.depth s.next v,.int .i64 0])/\cV w' w v s.es/\(∀x∈s.es,eR x)/\aI s.depth/\bX s.next)
def iG{B:Nat}{w0:Wo}{y0 y1 y2:Va}(h:Below B w0 w)(hg:B<=g):Below B w0 (((w.setCell (ol g) y0).setCell (an g 1) y1).setCell (an g 2) y2):=((h.setCell hg _).setCell hg _).setCell hg _
def CW(w:Wo)(v:Va)(p:Fr)(h:Bs w w v p)(eJ:dy p=none\/∃k' body,dy p=some (k',body)/\k'≠3):
  Calls prog 69 #[v] w (ShR w p):=by
 have hd:Af (mJ p=none):=by
  show _=_;unfold mJ;obtain h1|⟨k',body,h1,h2⟩:=eJ
  .rw[h1]
  .rw[h1];simp only;rw[Xd (λh=>h2 h.1)]
 obtain⟨A,c,rfl,-,-⟩:=h.1.form;have⟨W0,aY⟩:=eX (w.alloc (.cells #[io 0,gc 0,()] 79));have R0:Af (aq W0 w 79 [io 0,gc 0,()]):=zaN;have B0:Af (ci w W0):=aY▸(aF _ _);have jr:Bs W0 W0 (am A p.length c) p:=⟨(h.1.below B0.o).more B0.o.size,h.2⟩;have hO:=qM W0 _ p jr;have⟨m,hm⟩:=eX p.length;rw[<-hm] at hO|-;have HW:=aa aY.symm;have oN:Af (∀W2,ci W0 W2->ShR w p (.returned (.tuple #[shV 0 0 (),ac 40])) (((W2.setCell (ol w) (io 0)).setCell (an w.heap.size 1) (gc 0)).setCell (an w.heap.size 2) ())):=λW2 h2=>⟨iG (Pd B0.o h2) go,.inl ⟨hd.o,rfl⟩⟩;obtain h1|⟨k',body,h1,h2⟩:=eJ
 .have HO:Af (Calls prog 130 #[am A m c] W0 (iF (.tuple #[io 0,(),ac 10]) λw' =>ci W0 w')):=by
   refine Qaw hO ?_;rintro e w' ⟨b1,⟨-,rfl⟩|⟨_,_,_,h3,_⟩⟩
   .exact⟨rfl,b1⟩
   .rw[h1] at h3;cases h3
  clear h aY hm hO h1 jr hd;go_in;go_upto_region 1 with fail;rw[HW.o];go_upto_region 2 with(go_at_call 130;refine Pe HO.o λW1 B1=> ?_);exact zep
 .have HO:=aa (nH jr h1);rw[<-hm] at HO;have cH:(k' !=3)=true:=by rw[bne,Xc h2];rfl
  clear h aY hm hO h1 jr hd h2;go_in;go_upto_region 1 with fail;rw[HW.o];go_upto_region 2 with(go_at_call 130;refine HO.o.mono ?_;rintro e W1 ⟨A1,c1,rfl,o1,s1,b1⟩;have B1:=aa b1;clear o1 s1 b1);exact zep
def Pj(w:Wo)(x:Int):Calls prog 139 #[io x] w (iF (.bool (x !=0)) λw' =>w=w') :=by go_in;go_wp2;exact vl
def LB(w:Wo)(B:Nat)(v:Va)(bs:Fr)(hb:Bs w B v bs)(h0:0<bs.length)(hl:bs.length<=100000):
  Calls prog 193 #[v,.func (.func 139) #[] #[]] w λe w' =>(∃r:Int,e= .returned (ac r)/\decide (0<=r)= !(bs.all (·==0)))/\w=w' :=by
 obtain⟨b,o,c,rfl,hc,hm,EW,iH⟩:=hb.ns.cells h0;have⟨L,hL⟩:=eX bs.length;have HL:=aa hL;have Hc:Af (∀j,j<L->jp w b (o+j) (io (bs.getD j 0))):=λj hj=>iH j Mx;have Hl:Af (L<=100000):=by show L<=_;omega
 rw[<-hL] at hc|-;clear iH hL hb h0 hl EW;unfold maxLen at hm;go_in;go_wp2;go_loopw [8] (λi wr=>∃k:Nat,k<=L/\i= ac k/\wr=w/\Af (∀j,j<k->bs.getD j 0=0)) (λi _=>L - (intOf i).toNat)
 .exact⟨0,lm,rfl,rfl,λj h=>absurd h (Qew j)⟩
 .obtain⟨k,hk,rfl,rfl,HA⟩:=hrel;by_cases aJ:k<L
  .have hkL:(k:Int)<L:=(by omega);have SK:(0:Int)<=k:=Mx;have EX:wrap64 ((k:Int)+1)=(k:Int)+1:=(by have:=Hl.o;exact vW);have jb:=Hc.o k aJ;have Hx:Af (bs.getD k 0∈bs):=(by show _∈_;rw[Qe,Qf (HL.o▸aJ)];exact QI _);have⟨x,hx⟩:=eX (bs.getD k 0);rw[<-hx] at jb Hx;clear hk;change Af _ at hx aJ;by_cases gd:x=0
   .subst gd;go_wp2_with(go_at_call 139;refine PP (Pj _ _) ?_);go_roundw
    .refine⟨k+1,aJ.o,zcL,Sv,λj hj=> ?_⟩;by_cases e:j=k
     .subst e;exact hx.o.symm
     .exact HA.o j Mx
    .first|exact oh aJ.o|(rw[EX];exact oh aJ.o)
   .have hb:(x !=0)=true:=(by rw[bne,Xc gd];rfl);go_wp2_with(go_at_call 139;refine PP (Pj _ _) ?_);go_ret;refine⟨⟨_,rfl,?_⟩,rfl⟩;rw[Xa Mx];have:bs.all (·==0)=false:=(by rw[<-Qer,XT];intro h;exact gd (by simpa using h _ Hx.o));rw[this];rfl
  .obtain rfl:k=L:=(by omega);clear aJ hk;go_wp2;go_ret;refine⟨⟨_,rfl,?_⟩,rfl⟩;have:bs.all (·==0)=true:=(by rw[XT];intro y hy;obtain⟨j,hj,rfl⟩:=Qbu hy;have:=HA.o j (HL.o▸hj);rw[Qe,Qf hj] at this;exact zdO);rw[this];rfl
def LD(w:Wo)(B:Nat)(v:Va)(bs:Fr)(hb:Bs w B v bs)(h0:0<bs.length)(hl:bs.length<=100000):
  Calls prog 138 #[v,.func (.func 139) #[] #[]] w (iF (.bool (!(bs.all (·==0)))) λw' =>w=w') :=by
 have HI:=aa (LB w B v bs hb h0 hl);obtain⟨A,c,rfl,-,-⟩:=hb.1.form;clear hb h0 hl;go_in;go_wp2_with(go_at_call 193;refine HI.o.mono ?_;rintro e w' ⟨⟨r,rfl,hr⟩,rfl⟩;have HR:=aa hr;clear hr);go_ret;exact⟨by rw[<-HR.o];rfl,rfl⟩
end
end Go.Proofs.YtjjomjobllcleaaGreat

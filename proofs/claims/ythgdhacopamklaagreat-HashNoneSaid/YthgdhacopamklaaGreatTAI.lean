/- What HashNone asks, part 9 of 41: parts of the walks and laws, each true as it stands. -/
import Derived.Test.YthgdhacopamklaaGreatTAH
set_option maxHeartbeats 16000000
set_option maxRecDepth 100000
set_option linter.unusedVariables false
set_option linter.unusedSimpArgs false
namespace Go.Proofs.YthgdhacopamklaaGreat
open Go.Proofs.Tryz
section
open Go.RowKit
attribute [local go_sem] Oper.semAt_some
theorem GY (w:Wo) (g:Nat) (cs:Array Va):aG (fun x=>x=g) w (w.setRow g cs):=
 ⟨rfl,rfl,rfl,by simp[World.setRow],fun k _ hn=>setRow_other w g k cs (by omega)⟩
theorem sU:∀(bl:List (List Int)) (i:Nat) (d:List Int),i<bl.length→(∀b∈bl,b.length=128)→d.length=128→splice bl.flatten (i*128) d=(bl.set i d).flatten
 |[],i,d,hi,_,_=>by simp at hi
 |b::r,0,d,_,hs,hd=>by
  have hb:=hs b (by simp);unfold splice;rw[Xz,Zq,QZ,Qd,List.flatten_cons,List.flatten_cons,QR,hd];rw[←hb,List.drop_left]
 |b::r,i+1,d,hi,hs,hd=>by
  have hb:=hs b (by simp);have ih:=sU r i d (by simpa using hi) (fun x hx=>hs x (by simp[hx])) hd;unfold splice at ih⊢;rw[Qc,List.flatten_cons,List.flatten_cons,←ih,show(i+1)*128=b.length+i*128 by omega,List.take_length_add_append,XB,List.drop_length_add_append,QY]
theorem FB {α β:Type} (f:α→β) (L:List α) (o:Nat) (cs:List α):splice (L.map f) o (cs.map f)=(splice L o cs).map f:=by
 simp[splice,List.map_take,List.map_drop]
def ahA (bl:List (List Int)):List Va:=bl.flatten.map (.int .u8)
theorem wl_copy_chg {P:Program} {w:Wo} {ops:Array Oper} {rest:List Oper} {o:Oper} {a:Act} {Q:Exit→Act→Wo→Prop} (hgd:o.guard=none) (d s:Operand) (dT sT:TypeId)
  (ho:o.op= .call {callee:= .builtin .copy,args:= #[d,s],argTypes:= #[dT,sT]}) (elem:TypeId) (hu:P.underlying dT=some (.slice elem)) (cz:(P.info? elem).map (·.size)=some 1)
  (g off qj wW:Nat) (ad:Addr) (pA uw:Nat) (hd:a.eval d= .slice (some ⟨g,off,none⟩) qj wW) (hs:a.eval s= .slice (some ad) pA uw)
  (cur:List Va) (t:TypeId) (hg:aq w g t cur) (cs:List Va) (hn:cs.length=Nat.min pA qj)
  (EU:∀j v,cs[j]? =some v→w.cell? (ad.add j)=some v) (jy:off+cs.length≤cur.length) (h1:∀v∈cs,v.oneCell' =true)
  (h:∀w',aq w' g t (splice cur off cs)→aG (fun x=>x=g) w w'→wpList P ops Q rest (a.put o.dst (goInt cs.length)) w'):wpList P ops Q (o::rest) a w:=by
 refine wpList_copy_own hgd d s dT sT ho elem hu cz g off qj wW ad pA uw hd hs cur.toArray t hg cs hn EU (by simpa using jy) h1 ?_;exact h _ (setRow_heap w g _ _ t _ hg) (GY _ _ _)
theorem Qw (w:Wo) (d pl:Nat) (bl:List (List Int)) (wv:Va) (ho:aq w d 110 (J8 pl bl.length wv)) (hp:aq w pl 213 (bl.flatten.map (.int .u8)))
  (hs:∀b∈bl,b.length=128) (i:Nat) (hi:i<bl.length) (j5:bl.length≤4096) (data:List Int) (hd:data.length=128):
  Calls prog 112 #[.pointer (some ⟨d,0,none⟩),.agg (wu ((i:Int),data)).toArray,.int .i64 128] w fun e w' =>(∃u,e= .returned u)∧aq w' pl 213 (ahA (bl.set i data))∧aG (fun x=>x=pl) w w' :=by
 obtain⟨n,hn⟩:=eX bl.length;obtain⟨Z,hZ⟩:=eX (wu ((i:Int),data));rw[←hn] at ho;rw[←hZ];obtain⟨W1,aW⟩:=eX (w.alloc (.cells Z.toArray 215));obtain⟨xb,eD⟩:=eX w.heap.size;have X1:Af (aq W1 xb 215 Z):=by show aq _ _ _ _;rw[aW,eD];exact ar _ _ _
 have B1:Af (Below w.heap.size w W1):=by rw[aW];exact aF _ _
 have O1:=aa (ho.on B1.o);have P1:=aa (hp.on B1.o);have Hi:=iJ (by omega:i<n) hn (by omega:n≤4096);have Hs:=aa hs;have Hd:=aa hd;have HZ:=aa hZ;have gB:=aa aW.symm;have xD:=aa eD.symm;have h0:(0:Int)≤i:=by omega
 have h1:(i:Int)<n:=by omega
 clear ho hp hs hi hd hn j5 hZ aW eD;go_enter func112,ntmps112;go_upto_region 1 with fail
 rw[gB.o,xD.o];have x0:=O1.o.cell (j:=0) rfl;have x1:W1.cell? ⟨xb,0,none⟩=some (.int .i64 i):=X1.o.cell (by rw[HZ.o];rfl)
 refine wp_region_still_tail 11 (by kernel_rfl) (by kernel_rfl) ?_;simp only[Zw,Zq,Zk,Zl];change wpStill _ _ (World.drew W1) (fun a' =>wpList _ _ _ _ a' (World.drew W1)) _ _
 repeat still_step
 refine wpStill_nil ?_;refine wl_copy_chg rfl (.tmp 14) (.tmp 16) 87 87 rfl 5 underlying87 tP pl (i*128) 128 128 ⟨xb,1,none⟩ 128 128 rfl rfl _ 213 (show aq W1.drew pl _ _ from P1.o) (data.map (.int .u8)) ?_ ?_ ?_ (dW .u8 data) ?_
 ·rw[Qq,Hd.o];rfl
 ·intro j v hj
  rw[dP];refine X1.o.cell (j:=1+j) ?_;rw[HZ.o,Nat.add_comm];exact hj
 ·rw[Qq,Hd.o,Qq]
  have h2:=List.length_flatten (L:=bl);have h3:bl.map List.length=List.replicate bl.length 128:=List.ext_getElem (by simp) (fun j a b=>by simp;exact Hs.o _ (QI _))
  rw[h3,List.sum_replicate_nat] at h2;have:=Hi.o;omega
 intro W5 qd Z1;have B5:=aa qd;have C5:=aa Z1;clear qd Z1;go_wp2_with fail;go_end0;refine⟨⟨_,rfl⟩,?_,(aG.aZ B1.o).trans ((aG.refl _ W1).drew.trans C5.o)⟩;have h2:=B5.o;rw[FB,sU bl i data (by have:=Hi.o;omega) Hs.o Hd.o] at h2
 exact h2
theorem FI (w:Wo) (a:Addr) (cs:List Va) (hl:cs.length=129) (h:∀j v,cs[j]? =some v→w.cell? (a.add j)=some v):
  (Instr.loadAt 215 (.pointer (some a))).run prog w= .ok (.agg cs.toArray) w:=by
 have h1:=run_loadCells_list (P:=prog) w a cs h;simp only[hl] at h1;have h2:(isAgg 215).run prog w= .ok true w:=by kernel_rfl
 have h3:(sizeOf 215).run prog w= .ok 129 w:=by kernel_rfl
 have h4:(Instr.sureAddr (.pointer (some a))).run prog w= .ok a w:=rfl;simp[Instr.loadAt,loadVar,h1,h2,h3,h4,Result.andThen]
theorem I3:∀(ws:List (Int×List Int)) (k:Nat) (hk:k<ws.length) (j:Nat),(∀p∈ws,p.2.length=128)→j<129→(ws.flatMap wu)[k*129+j]? =(wu ws[k])[j]?
 |[],k,hk,j,_,_=>by simp at hk
 |p::r,0,hk,j,hs,hj=>by
  have hp:=hs p (by simp);rw[QH,Xz,QR,QN (by simp[wu];omega)]
  rfl
 |p::r,k+1,hk,j,hs,hj=>by
  have hp:=hs p (by simp);have hl:(wu p).length=129:=by simp[wu];omega
  rw[QH,QM (by rw[hl];omega),hl,show(k+1)*129+j - 129=k*129+j by omega]
  rw[I3 r k (by simpa using hk) j (fun q hq=>hs q (by simp[hq])) hj];rfl
theorem Di (bl:List (List Int)) (ws:List (Int×List Int)) (p:Int×List Int):eS bl (ws++[p])=(eS bl ws).set p.1.toNat p.2:=by simp[eS]
theorem zS (bl:List (List Int)) (ws:List (Int×List Int)) (k:Nat) (q:Int×List Int) {i:Nat} (h:ws[k]? =some q) (hi:q.1=i):eS bl (ws.take (k+1))=(eS bl (ws.take k)).set i q.2:=by
 rw[List.take_add_one,h,Option.toList_some,Di,hi,Xt]
theorem fG (bl:List (List Int)) (ws:List (Int×List Int)):(eS bl ws).length=bl.length:=by
 unfold eS;induction ws generalizing bl with
 |nil=>rfl
 |cons p r ih=>rw[List.foldl_cons,ih,Zy]
theorem lL {P:List Int→Prop}:∀(ws:List (Int×List Int)) (bl:List (List Int)),(∀b∈bl,P b)→(∀p∈ws,P p.2)→∀b∈eS bl ws,P b
 |[],bl,h,_=>h
 |p::r,bl,h,hw=>by
  show ∀b∈eS (bl.set p.1.toNat p.2) r,P b;refine lL r _ (fun b hb=> ?_) (fun q hq=>hw q (by simp[hq]));rcases Zz hb with h1|h1
  ·exact h b h1
  ·rw[h1];exact hw p (by simp)
theorem ab7:(prog.info? 215).map (fun i=>(i.zero,i.size))=some (some (.agg (.int .i64 0::List.replicate 128 (Value.int .u8 0)).toArray),129):=by kernel_rfl
theorem LM (w:Wo) (d pl:Nat) (bl:List (List Int)) (base:Nat) (wv:Va) (ws:List (Int×List Int)) (h:mz w d pl bl base wv ws) (Ev:ws.length≤10000):
  Calls prog 46 #[.pointer (some ⟨d,0,none⟩)] w fun e w' =>e= .returned (.int .i64 0)∧cF w' d pl (eS bl ws)∧aG (fun x=>x=d∨x=pl) w w' :=by
 obtain⟨n,hn⟩:=eX bl.length;obtain⟨A,m,c,hwv⟩:∃A n c,wv= .slice A n c:=by rcases h.row.2 with⟨h1,_⟩|⟨g,cap,cur,h1,_⟩<;>exact⟨_,_,_,h1⟩
 subst hwv;have hm:m=ws.length:=by rcases h.row.2 with⟨h1,h2⟩|⟨g,cap,cur,h1,_⟩<;>cases h1<;>omega
 subst hm;have H:=aa h;have Hn:=dK hn Ev;have am3:(ws.length:Int)≤10000:=by omega
 have HM:=aa (zL w d pl n _ (by rw[hn];exact h.own));have HPw:=aa (yg w d pl n _ (by rw[hn];exact h.own));have x1:=h.own.cell (j:=1) rfl;obtain⟨m,hm⟩:=eX ws.length;rw[←hm] at am3 x1;have Hm:=aa hm;clear h hn Ev hm;go_enter func46,ntmps46;go_wp2_with(first
  |(go_at_call 110;go_must(refine HM.o.mono ?_);rintro e W2 ⟨rfl,rfl⟩)
  |(go_at_call 111;go_must(refine HPw.o.mono ?_);rintro e W3 ⟨rfl,rfl⟩))
 clear HM HPw x1;go_loopw [23] (fun i wr=>∃k:Nat,i= .int .i64 k∧Af (k≤m∧aq wr pl 213 ((eS bl (ws.take k)).flatten.map (.int .u8))∧aG (fun x=>x=pl) w wr)) (fun i _=>m - (intOf i).toNat)
 case atStart=>exact⟨0,rfl,Qp _,H.o.eP,aG.refl _ _⟩
 case round=>
  obtain⟨k,rfl,HR⟩:=hrel;by_cases aJ:k<m
  ·have hi:(k:Int)<m:=by omega
   have ml:(0:Int)≤k:=by omega
   have bQ:k<ws.length:=by have:=Hm.o;omega
   have fp:wrap64 ((k:Int)+1)=(k:Int)+1:=by unfold wrap64;omega
   have bj:=aa aJ;have eu:=aa fp;obtain⟨g,c',hv,EA,hgc,Wv,SD⟩:=rK H.o.row (by omega);cases hv
   obtain⟨q,hq⟩:=eX (ws[k]);have hqm:q∈ws:=by rw[hq];exact QI bQ
   have cz:=H.o.YX q hqm;obtain⟨i,Ni⟩:=Int.eq_ofNat_of_zero_le cz.2.2.1;obtain⟨Z,hZ⟩:=eX (wu q);have hZl:Z.length=129:=by rw[hZ];simp[wu];omega
   have agG:=Rw.ne SD H.o.eP (by decide);have age:=SD.aL HR.o.2.2 agG;have xF:Af (∀a,a=Addr.mk g (k*129) none→(Instr.loadAt 215 (.pointer (some a))).run prog wr= .ok (.agg Z.toArray) wr):=by
    rintro a rfl;refine FI wr _ Z hZl (fun j v hj=> ?_);rw[dP];refine age.cell ?_;have hj2:j<129:=by
     rcases Nat.lt_or_ge j Z.length with h1|h1
     ·omega
     ·rw[QQ h1] at hj;cases hj
    rw[I3 ws k bQ j (fun p hp=>(H.o.YX p hp).1) hj2,←hq,←hZ];exact hj
   have HZ:Af (Z=wu ((i:Int),q.2)∧Z.length=129∧Z.toArray.all (·.oneCell')=true):=⟨by rw[hZ,←Ni],hZl,all_oneCell_toArray (by rw[hZ];exact I1 q)⟩;have Hq:=kH (by rw[hq];exact Qf bQ:ws[k]? =some q) Ni cz.1 (by have:=cz.2.2.2;omega:i<bl.length);have Hs:Af (∀b∈eS bl (ws.take k),b.length=128):=lL (P:=fun b=>b.length=128) _ _ H.o.size (fun p hp=>(H.o.YX p (Za hp)).1);obtain⟨W2,cE⟩:=eX (wr.alloc (.cells Z.toArray 215));obtain⟨xb,eD⟩:=eX wr.heap.size;have X2:Af (aq W2 xb 215 Z):=by show aq _ _ _ _;rw[cE,eD];exact ar _ _ _
   have B2:Af (Below wr.heap.size wr W2):=by rw[cE];exact aF _ _
   have Tb:=aa cE.symm;have xD:=aa eD.symm;clear aJ bQ hq hqm cz Ni hZ hZl agG age SD EA hgc Wv cE eD;go_wp2_with(first
    |((with_reducible refine wl_load (.pointer (some ⟨g,k*129,none⟩)) (.agg Z.toArray) ?_ (xF.o _ rfl) ?_);go_must((·first|rfl|(simp;done));skip))
    |((with_reducible refine wl_new_arr (t:=215) (z:=(.int .i64 0::List.replicate 128 (Value.int .u8 0)).toArray) Z.toArray ?_ ?_ HZ.o.2.2 ?_ ?_ ?_);go_must((·have:=HZ.o.2.1;rw[QW,this];exact ab7);(·have:=HZ.o.2.1;simp[this]);(·rfl);(·rfl);(rw[Tb.o,xD.o];go_frame))))
   have B2d:=B2.o.drew;have eK:=H.o.ne;have HP:=aa (Qw W2.drew d pl (eS bl (ws.take k)) _ (by rw[fG];exact(H.o.own.aL HR.o.2.2 eK).on B2d) (HR.o.2.1.on B2d) Hs.o i (by rw[fG];exact Hq.o.2.2.2) (by rw[fG];exact H.o.n1) q.2 Hq.o.2.2.1);rw[←HZ.o.1,←zS _ ws k q Hq.o.1 Hq.o.2.1] at HP;have an5:=aa B2d;have HL2:=aa (rM W2.drew xb Z HZ.o.2.1 X2.o);clear B2d eK;refine wp_region_still_tail 4 (by kernel_rfl) (by kernel_rfl) ?_;simp only[Zw,Zq,Zk,Zl];change wpStill _ _ (World.drew W2) (fun a' =>wpList _ _ _ _ a' (World.drew W2)) _ _
   repeat(first|((with_reducible refine st_load (t:=215) (.pointer (some ⟨xb,0,none⟩)) (.agg Z.toArray) ?_ HL2.o ?_);(·rfl))|still_step)
   refine wpStill_nil ?_;go_wp2_with(go_at_call 112;go_must(refine HP.o.mono ?_);rintro e W4 ⟨⟨u,rfl⟩,p4,c4⟩;have P4:=aa p4;have C4:=aa c4;clear p4 c4);go_roundw
   case rel=>exact⟨k+1,by first|rfl|(rw[eu.o];rfl),bj.o,P4.o,(HR.o.2.2.trans (aG.aZ an5.o)).trans C4.o⟩
   case measure=>first|exact al bj.o|(rw[eu.o];exact al bj.o)
  ·obtain rfl:k=m:=by have:=HR.o;omega
   have e1:ws.take k=ws:=Qj (by have:=Hm.o;omega);have P0:Af (aq wr pl 213 ((eS bl ws).flatten.map (.int .u8))):=by have h1:=HR.o.2.1;rw[e1] at h1;exact h1
   have K0:=aa (H.o.own.aL HR.o.2.2 H.o.ne);have C0:=aa HR.o.2.2;have x1:=K0.o.cell (j:=1) rfl;have f1:=K0.o.free 1;clear e1 HR;go_wp2_with fail;go_ret;refine⟨rfl,⟨?_,P0.o.az (Xm H.o.ne) _,H.o.ne,lL _ _ H.o.size (fun p hp=>(H.o.YX p hp).1),lL (P:=fun b=>∀x∈b,aI x) _ _ H.o.byte (fun p hp=>(H.o.YX p hp).2.1),by rw[fG];exact H.o.n0,by rw[fG];exact H.o.n1⟩,?_⟩
   ·rw[fG];exact K0.o.set 1 _
   ·exact(C0.o.mono fun x _ h=> .inr h).setCell (fun _=> .inl rfl) _
end
section
open Go.RowKit
variable {w w' : Wo} {d pl : Nat} {v : Va}
inductive ri where
 |wr (at_:Nat) (data:List Int)
 |fl
def DS (d pl:Nat):Nat→Prop:=fun x=>x=d∨x=pl
def lI (w:Wo) (d pl:Nat) (v:Va):ri→Prop
 | .wr i data=>∃b1 b2 b3 dv,v= .func (.func 108) #[] #[.pointer (some ⟨b1,0,none⟩),.pointer (some ⟨b2,0,none⟩),.pointer (some ⟨b3,0,none⟩)]∧aq w b1 24 [.pointer (some ⟨d,0,none⟩)]∧aq w b2 3 [.int .i64 i]∧aq w b3 87 [dv]∧Bs w w.heap.size dv data∧Ap (DS d pl) dv∧¬DS d pl b1∧¬DS d pl b2∧¬DS d pl b3
 | .fl=>v= .func (.func 46) #[.pointer (some ⟨d,0,none⟩)] #[]
theorem run_store_func {P:Program} {a:Addr} {m:Mode} (f:Fn) (xs ys:Array Va):(store a (.func f xs ys) m).run P w=stored P w a (.func f xs ys) m:=run_store P w a _ m rfl
def iW (s:List (List Int)×List (Int×List Int)):List ri→List (List Int)×List (Int×List Int)
 |[]=>s
 | .wr i data::r=>iW (s.1,s.2++[((i:Int),data)]) r
 | .fl::r=>iW (eS s.1 s.2,[]) r
theorem xX (s:List (List Int)×List (Int×List Int)) (l m:List ri):iW s (l++m)=iW (iW s l) m:=by
 induction l generalizing s with
 |nil=>rfl
 |cons a r ih=>cases a<;>exact ih _
def abp (n:Nat):ri→Prop
 | .wr i data=>i<n∧data.length=128
 | .fl=>True
theorem lI.aL {s:ri} (h:lI w d pl v s) (hc:aG (DS d pl) w w'):lI w' d pl v s:=by
 cases s with
 |fl=>exact h
 |wr i data=>
  obtain⟨b1,b2,b3,dv,e,h1,h2,h3,h4,h5,n1,n2,n3⟩:=h;exact⟨b1,b2,b3,dv,e,h1.aL hc n1,h2.aL hc n2,h3.aL hc n3,⟨(h4.1.aL hc (Qg _) h5).more hc.size,h4.2⟩,h5,n1,n2,n3⟩
theorem lI.on {s:ri} (h:lI w d pl v s) (hb:Below w.heap.size w w'):lI w' d pl v s:=h.aL (aG.aZ hb)
theorem Lr {b:Nat} {x:Va} (h:aq w b 120 [x]):(loadVar 120 ⟨b,0,none⟩).run prog w= .ok (.agg #[x]) w:=by
 have h0:=h.cell (j:=0) rfl;have h2:(isAgg 120).run prog w= .ok true w:=by kernel_rfl
 have h3:(sizeOf 120).run prog w= .ok 1 w:=by kernel_rfl
 have h1:=run_loadCells_list (P:=prog) w ⟨b,0,none⟩ [x] (fun j v hj=>by rw[dP,QR];exact h.cell hj);simp only[QF,Xq,QR] at h1;simp[loadVar,h1,h2,h3,Result.andThen]
theorem Cl (w:Wo) (d pl:Nat) (bl:List (List Int)) (base:Nat) (wv:Va) (ws:List (Int×List Int)) (h:mz w d pl bl base wv ws) (iV:base≤w.heap.size) (Ev:ws.length≤10000) (v:Va) (i:Nat) (data:List Int) (hs:lI w d pl v (.wr i data)) (hk:abp bl.length (.wr i data)):
  ∃b1 b2 b3,v= .func (.func 108) #[] #[.pointer (some ⟨b1,0,none⟩),.pointer (some ⟨b2,0,none⟩),.pointer (some ⟨b3,0,none⟩)]∧
  Calls prog 108 #[.pointer (some ⟨b1,0,none⟩),.pointer (some ⟨b2,0,none⟩),.pointer (some ⟨b3,0,none⟩)] w fun e w' =>e= .returned (.int .i64 0)∧∃wv',mz w' d pl bl base wv' (ws++[((i:Int),data)])∧aG (fun x=>x=d∨wv.ownBlock=some x) w w' :=by
 obtain⟨b1,b2,b3,dv,e,h1,h2,h3,h4,h5,-,-,-⟩:=hs;refine⟨b1,b2,b3,e,?_⟩;have HW:=aa (Kk w d pl bl base wv ws h iV Ev i hk.1 dv data h4 hk.2);have x1:=h1.cell (j:=0) rfl;have x2:=h2.cell (j:=0) rfl;have x3:=h3.cell (j:=0) rfl;obtain⟨A,c,rfl,-,-⟩:=h4.1.form;clear e h1 h2 h3 h4 h5 h iV Ev hk;go_enter func108,ntmps108;go_wp2_with(go_at_call 109;go_must(refine HW.o.mono ?_);rintro e W2 ⟨rfl,wv2,d2,c2,-⟩;have D2:=aa d2;have C2:=aa c2;clear d2 c2)
 go_ret;exact⟨rfl,wv2,D2.o,C2.o⟩
theorem xW (s:List (List Int)×List (Int×List Int)) (l:List ri):(iW s l).1.length=s.1.length:=by
 induction l generalizing s with
 |nil=>rfl
 |cons a r ih=>
  cases a with
  |wr i data=>exact ih _
  |fl=>exact(ih _).trans (fG _ _)
theorem Dl (s:List (List Int)×List (Int×List Int)) (l:List ri):(iW s l).2.length≤s.2.length+l.length:=by
 induction l generalizing s with
 |nil=>exact XM _ _
 |cons a r ih=>
  cases a with
  |wr i data=>
   have:=ih (s.1,s.2++[((i:Int),data)]);simp at this⊢;show(iW (s.1,s.2++[((i:Int),data)]) r).2.length≤_;omega
  |fl=>
   have:=ih (eS s.1 s.2,[]);simp at this⊢;show(iW (eS s.1 s.2,[]) r).2.length≤_;omega
theorem cF.Ym {bl:List (List Int)} (h:cF w d pl bl) (base:Nat):∃wv,mz w d pl bl base wv []:=⟨_,h.wait base⟩
end
section
open Go.RowKit Go.Shelf
attribute [local go_sem] Oper.semAt_some
variable {W W' w : Wo} {s : aN} {g pb vb xb : Nat} {C : List Va} {pre : List uq}
theorem vP (w:Wo) (xb:Nat):Calls prog 105 #[.pointer (some ⟨xb,0,none⟩)] w fun e w' =>e= .returned (.func (.func 185) #[] #[.pointer (some ⟨w.heap.size,0,none⟩)])∧w' =w.alloc (.cells #[.pointer (some ⟨xb,0,none⟩)] 205):=by
 go_enter func105,ntmps105;go_wp2_with fail;go_ret;exact⟨rfl,rfl⟩
theorem ef {b:Nat} {cs:List Va} (hl:cs.length=18) (h:∀j v,cs[j]? =some v→w.cell? ⟨b,j,none⟩=some v):(Instr.loadAt 41 (.pointer (some ⟨b,0,none⟩))).run prog w= .ok (.agg cs.toArray) w:=by
 have h1:=run_loadCells_list (P:=prog) w ⟨b,0,none⟩ cs (fun j v hj=>by rw[dP,QR];exact h j v hj);simp only[hl] at h1;have h2:(isAgg 41).run prog w= .ok true w:=by kernel_rfl
 have h3:(sizeOf 41).run prog w= .ok 18 w:=by kernel_rfl
 have h4:(Instr.sureAddr (.pointer (some ⟨b,0,none⟩))).run prog w= .ok ⟨b,0,none⟩ w:=rfl;simp[Instr.loadAt,loadVar,h1,h2,h3,h4,Result.andThen]
def fW (s:aN) (k:Nat):List Int:=(List.range k).foldl (fun b i=>lB b (kK i).toNat (ia i).toNat ((wR s).getD i 0)) (List.replicate 123 0)
theorem kq (s:aN) (k:Nat):fW s (k+1)=lB (fW s k) (kK k).toNat (ia k).toNat ((wR s).getD k 0):=by
 unfold fW;rw[List.range_succ,List.foldl_append];rfl
theorem gW (s:aN) (k:Nat) (hk:k≤18):(fW s k).length=123:=by
 induction k with
 |zero=>simp[fW]
 |succ k ih=>
  have h1:=ln k (by omega);have h2:=gP k;rw[kq,u7 (by rw[ih (by omega)];omega),ih (by omega)]
theorem ye {bs:List Int} (h:∀x∈bs,aI x) (p s:Nat) (n:Int):∀x∈lB bs p s n,aI x:=by
 intro x hx;unfold lB at hx;rcases Qz.1 hx with hx|hx
 ·rcases Qz.1 hx with hx|hx
  ·exact h x (Za hx)
  ·exact eW s n x hx
 ·exact h x (Q6 hx)
theorem DU (s:aN) (k:Nat):∀x∈fW s k,aI x:=by
 induction k with
 |zero=>intro x hx;rw[show fW s 0=List.replicate 123 0 from rfl] at hx;rw[QJ hx];exact⟨by decide,by decide⟩
 |succ k ih=>rw[kq];exact ye ih _ _ _
def uP (s:aN) (k:Nat):List Int:=(List.range k).flatMap fun i=>mH (ia i).toNat ((wR s).getD i 0)
theorem vV (s:aN) (k:Nat):uP s (k+1)=uP s k++mH (ia k).toNat ((wR s).getD k 0):=by
 unfold uP;rw[List.range_succ,QP];simp
theorem yS (s:aN) (k:Nat) (hk:k≤18):((uP s k).length:Int)=kK k:=by
 induction k with
 |zero=>rfl
 |succ k ih=>
  have h2:=gP k;rw[vV,Qo,de,vg,←ih (by omega)]
  push_cast
  rcases h2 with e|e<;>rw[e]<;>rfl
theorem Mj (s:aN) (k:Nat) (hk:k≤18):fW s k=uP s k++List.replicate (123 - (kK k).toNat) 0:=by
 induction k with
 |zero=>rfl
 |succ k ih=>
  have h1:=yS s k (by omega);have h2:=gP k;have h3:=ln k (by omega);have h4:=vg k;rw[kq,ih (by omega),nE _ _ _ _ _ (by omega),vV];congr 1
  rw[show 123 - (kK k).toNat - (ia k).toNat=123 - (kK (k+1)).toNat by omega]
theorem Sm (h:bM s):uP s 18=mH 8 s.gen++mH 4 s.blocks++s.roots.flatMap (mH 4)++s.marks.flatMap (mH 8):=by
 obtain⟨gen,blocks,roots,marks⟩:=s;have hr:=h.r8;have hm:=h.m8;dsimp only at hr hm⊢
 match roots,hr with
 |[a0,a1,a2,a3,a4,a5,a6,a7],_=>
  match marks,hm with
  |[b0,b1,b2,b3,b4,b5,b6,b7],_=>
   show((List.range 18).flatMap fun i=>mH (ia i).toNat (([gen,blocks,a0,a1,a2,a3,a4,a5,a6,a7,b0,b1,b2,b3,b4,b5,b6,b7]:List Int).getD i 0))=_;have acf:List.range 18=[0,1,2,3,4,5,6,7,8,9,10,11,12,13,14,15,16,17]:=by decide
   rw[acf];simp only[QH,List.flatMap_nil,Zi,QY];rfl
theorem Sj (h:bM s):lB (fW s 18) 115 8 s.gen=qx s:=by
 have hl:(uP s 18).length=108:=by have:=yS s 18 (Qg _);rw[show kK 18=108 from rfl] at this;omega
 rw[Mj s 18 (Qg _),show 123 - (kK 18).toNat=7+8 from rfl,←List.replicate_append_replicate,←QY];rw[nE _ _ _ _ _ (by rw[Qo,QK,hl])];rw[Sm h];unfold qx;simp
structure Bz (w:Wo) (s:aN) (xb pb g vb:Nat) (C:List Va) (pre:List uq) (W:Wo):Prop where
 le:pre.length≤18
 own:dn W g (fW s pre.length)
 sup:aq W xb 41 C
 vb:aq W vb 87 [.slice (some ⟨g,0,none⟩) 123 123]
 box:aq W pb 205 [.pointer (some ⟨xb,0,none⟩)]
 low:Below w.heap.size w W
theorem Bz.on (h:Bz w s xb pb g vb C pre W) (hb:Below W.heap.size W W'):Bz w s xb pb g vb C pre W' :=
 ⟨h.le,h.own.aQ (hb.block g h.own.lt),h.sup.on hb,h.vb.on hb,h.box.on hb,h.low.trans (hb.mono h.low.size)⟩
theorem Bz.aL {S:Nat→Prop} (h:Bz w s xb pb g vb C pre W) (hc:aG S W W') (hS:∀k,(k=g∨k=xb∨k=vb∨k=pb∨k<w.heap.size)→¬S k):Bz w s xb pb g vb C pre W' :=
 ⟨h.le,h.own.aL hc (hS g (.inl rfl)),h.sup.aL hc (hS xb (.inr (.inl rfl))),h.vb.aL hc (hS vb (.inr (.inr (.inl rfl)))),h.box.aL hc (hS pb (.inr (.inr (.inr (.inl rfl))))),h.low.trans (hc.below h.low.size (fun x hx=>hS x (.inr (.inr (.inr (.inr hx))))))⟩
theorem Yg.on {e:uq} (h:Yg xb pb pre e W) (hb:Below W.heap.size W W'):Yg xb pb pre e W' :=
 ⟨h.1,h.2.1,h.2.2.1.aL (fun _ _ hB=>hB.on hb),h.2.2.2.1,(hb.cell (World.block_lt_of_cell? W _ h.2.2.2.2)).trans h.2.2.2.2⟩
theorem RW (w:Wo) (s:aN) (h:bM s) (hr:nm s=true):
  Calls prog 43 #[.agg (aP s).toArray] w (Made w (J7 s)):=by
 obtain⟨C,hC⟩:∃C,C=aP s:=⟨_,rfl⟩;obtain⟨W1,aW⟩:∃y,y=w.alloc (.cells C.toArray 41):=⟨_,rfl⟩;obtain⟨xb,eD⟩:∃y,y=w.heap.size:=⟨_,rfl⟩;have X1:Af (aq W1 xb 41 C):=by show aq _ _ _ _;rw[aW,eD];exact ar _ _ _
 have B1:Af (Below w.heap.size w W1):=by rw[aW];exact aF _ _
 have HL:=aa (ef (w:=W1) (b:=xb) (cs:=C) (by rw[hC];exact bK h) (fun j v hj=>X1.o.cell hj));have hR:=vB W1 s h;rw[hr,←hC] at hR;have HR:=aa hR;have H:=aa h;have HC:=aa hC;have gB:=aa aW.symm;have xD:=aa eD.symm;rw[←hC];clear hR aW eD hC h;refine(callsIn_wide (n:=3)).1 ?_;refine callsIn_of_wp_marks func43 rfl trivial ?_ rfl;simp only[ntmps43,QW,QF,Xq,Nat.reduceAdd,Nat.reduceSub,Xv,Xw,Xx,Xy,QZ,List.cons_append];refine wpIn_wide.2 ?_;go_upto_region 1 with fail
 rw[gB.o,xD.o];go_upto_region 3 with(first
  |((with_reducible refine wl_load _ _ ?_ HL.o ?_);go_must((·rfl);go_frame))
  |(go_at_call 104;go_must(refine HR.o.mono ?_);rintro e W2 ⟨rfl,b2⟩;have B2:=aa b2;clear b2))
 have X2:=aa (X1.o.on B2.o);have Uu:=aa (B1.o.trans (B2.o.mono B1.o.size));obtain⟨W3,cD⟩:∃y,y=W2.alloc (.cells (List.replicate 123 (Value.int .u8 0)).toArray 5):=⟨_,rfl⟩;obtain⟨g,hg⟩:∃y,y=W2.heap.size:=⟨_,rfl⟩;have yX:(Instr.makeSlice 87 (.int .i64 123) (.int .i64 123)).run prog W2= .ok (.slice (some ⟨g,0,none⟩) 123 123) W3:=by have:=eV (P:=prog) underlying87 rD (eC .u8 0) (by decide) 123 (by decide) W2;rw[cD,hg];exact this
 have g3:aq W3 g 5 (List.replicate 123 (Value.int .u8 0)):=by rw[cD,hg];exact ar _ _ _
 have b3:Below W2.heap.size W2 W3:=by rw[cD];exact aF _ _
 obtain⟨W4,j7⟩:∃y,y=W3.alloc (.cells #[.slice (some ⟨g,0,none⟩) 123 123] 87):=⟨_,rfl⟩;obtain⟨vb,oQ⟩:∃y,y=W3.heap.size:=⟨_,rfl⟩;have b4:Below W3.heap.size W3 W4:=by rw[j7];exact aF _ _
 have G4:=aa (g3.on b4);have V4:Af (aq W4 vb 87 [.slice (some ⟨g,0,none⟩) 123 123]):=by show aq _ _ _ _;rw[j7,oQ];exact ar _ [_] _
 have b24:=b3.trans (b4.mono b3.size);have X4:=aa (X2.o.on b24);have Ut:=aa (Uu.o.trans (b24.mono Uu.o.size));have bj:Af (xb<g∧g<vb∧vb<W4.heap.size∧xb=w.heap.size):=⟨by rw[hg];exact X2.o.lt,by rw[oQ];exact g3.lt,V4.o.lt,xD.o.symm⟩;have Bh:=aa j7.symm;have Hvb:=aa oQ.symm;clear cD j7 oQ hg g3 b3 b4 b24 HL HR X1 B1 B2 X2 gB xD;go_upto_region 4 with fail
 rw[Bh.o,Hvb.o];clear yX;go_upto_region 5 with(go_at_call 105;go_must(refine(vP W4 xb).mono ?_);rintro e W5 ⟨rfl,rfl⟩)
 obtain⟨W5,j6,P5,qd⟩:=nW W4 [.pointer (some ⟨xb,0,none⟩)] 205;obtain⟨pb,xy⟩:∃y,y=W4.heap.size:=⟨_,rfl⟩;rw[←j6,←xy];rw[←xy] at P5;have Iv:Bz w s xb pb g vb C [] W5:=by refine⟨by decide,?_,X4.o.on qd,V4.o.on qd,P5,Ut.o.trans (qd.mono Ut.o.size)⟩;exact(G4.o.on qd).JZ (bs:=List.replicate 123 0)
 have ID:=aa Iv;have kS:Af (xb<g∧g<vb∧vb<pb∧pb<W5.heap.size∧xb=w.heap.size):=⟨bj.o.1,bj.o.2.1,by rw[xy];exact bj.o.2.2.1,P5.lt,bj.o.2.2.2⟩;have ZF:=fun (w:Wo) (a:Addr) (f:Fn) (xs ys:Array Va)=>run_store_func (P:=prog) (w:=w) (a:=a) (m:= .plain) f xs ys
 simp only[stored] at ZF;clear qd P5 j6 xy Iv G4 V4 X4 Ut Bh Hvb bj;refine(wpIn_wide (n:=3)).1 ?_;refine xZ (α:=uq) (P:=prog) rfl (by decide) (gf:=185) (lb:= #[.pointer (some ⟨pb,0,none⟩)]) rfl trivial (enters_of func185 (by kernel_rfl) rfl) E6 (fun _=>rfl)
  (fun k=>k=g) (Yg xb pb) (fun pre=>pre.length=18) (Bz w s xb pb g vb C) ?h0 ?hIc ?hit ?hOb
  (fun e W=>{tmps:= #[.agg C.toArray,.pointer (some ⟨xb,0,none⟩),.slice none 0 0,.int .i64 0,.pointer (some ⟨vb,0,none⟩),.int .i64 (kK e.k),.pointer (some ⟨W.heap.size,0,none⟩),.agg C.toArray,.bool true,.bool false,.slice (some ⟨g,0,none⟩) 123 123,.func (.func 185) #[] #[.pointer (some ⟨pb,0,none⟩)],.int .i64 (kK e.k),.agg #[.int .i64 (ia e.k),.int .u64 e.get,.func (.func e.f) #[] e.bx],undef,undef,undef,undef,undef,undef,undef,undef,undef,undef,undef,undef,undef,undef,undef],defers:=[]})
  (fun e W=>W.alloc (.cells #[.int .i64 (ia e.k),.int .u64 e.get,.func (.func e.f) #[] e.bx] 208)) (fun e W=>aF _ _) ?assign ?body ?done
 case h0=>exact fun W hW=>ID.o.on hW
 case hIc=>exact fun pre A C' h hc=>h.aL hc (fun k hk=>by have:=kS.o;rcases hk with rfl|rfl|rfl|rfl|hk<;>omega)
 case hOb=>exact fun pre x A C' h hb=>h.on hb
 case hit=>
  intro l J W hW hJI hJc hY Iu;refine(callsIn_wide (n:=2)).2 (yI W l xb pb (fun k=>k=g) J ⟨hJc,hY,fun pre A hj=>(hJI _ _ hj).box,fun pre A hj k hk=>⟨_,xP H.o k hk,(hJI _ _ hj).sup.cell (by rw[HC.o];exact uV H.o k hk)⟩,?_,?_⟩ Iu)
  ·have:=kS.o;have:=hW.size;omega
  ·rintro k rfl;have:=kS.o;have:=hW.size;omega
 case assign=>
  intro l e W K hK;unfold E6
  gi_wp2
  exact hK
 case body=>
  intro l pre x W0 o o' ec hI hl AS Ec cz;have aJ:=(Qy.1 AS).1;have F0:=ar W0 [.int .i64 (ia x.k),.int .u64 x.get,.func (.func x.f) #[] x.bx] 208;have q:aG (fun k=>k=l) (W0.alloc (.cells #[.int .i64 (ia x.k),.int .u64 x.get,.func (.func x.f) #[] x.bx] 208)) ((W0.alloc (.cells #[.int .i64 (ia x.k),.int .u64 x.get,.func (.func x.f) #[] x.bx] 208)).putObj l o'):=fY _ _ _ _ rfl;have hFI:=hI.aL q (fun k hk=>by have:=kS.o;rcases hk with rfl|rfl|rfl|rfl|hk<;>omega);have hF6:=F0.aL q (by omega);have EY:=ec.2.1;have tg:=ec.1;have iO:x.get=(wR s).getD x.k 0:=by
   have h1:=ec.2.2.2.2;rw[hI.sup.cell (by rw[HC.o];exact uV H.o x.k EY)] at h1;injection h1 with h1
   injection h1 with _ h1
   exact h1.symm
  obtain⟨W6,jc⟩:∃y,y=(W0.alloc (.cells #[.int .i64 (ia x.k),.int .u64 x.get,.func (.func x.f) #[] x.bx] 208)).putObj l o' :=⟨_,rfl⟩;rw[←jc] at hFI hF6⊢;have ha:=ln x.k (by omega);have hz:=gP x.k;have hf:=xP H.o x.k EY;obtain⟨a,haa⟩:∃a:Nat,kK x.k=a:=⟨(kK x.k).toNat,by omega⟩;obtain⟨z,hzz⟩:∃z:Nat,ia x.k=z:=⟨(ia x.k).toNat,by omega⟩;have hP:=jM W6 g 0 123 123 a z (fW s x.k) x.get (by rw[tg];exact hFI.own) (by rw[gW s x.k (by omega)];exact Qg _) (by omega) (by omega) (by rw[gW s x.k (by omega)];decide) (by unfold kX at hf;rw[iO];rw[hzz,Xt] at hf;exact hf)
  rw[←haa,←hzz] at hP;have HP:=aa hP;have v0:=hFI.vb.cell (j:=0) rfl;obtain⟨e0,e1⟩:=gh hF6;have HFI:=aa hFI;have Hk:Af (x.k<18∧x.k=pre.length∧fW s (x.k+1)=lB (fW s x.k) a z x.get):=⟨EY,tg,by rw[kq,←iO,haa,hzz,Xt,Xt]⟩;have BK:∀(j:Nat) (ob:Obj),some g=some j→W6.heap[j]? =some ob→ob.isCells=true:=fun j ob e h=>by
   cases e
   obtain⟨cs,h0,-⟩:=hFI.own;rw[h0] at h;cases h
   rfl
  have EM:=aa BK;clear hP hf ha hz haa hzz iO tg EY hFI hF6 q F0 jc aJ ec hI hl AS Ec cz BK;generalize kK x.k=A at*;generalize ia x.k=Z at*
  gi_wp2_with (refine⟨trivial,?_⟩;gi_at_call 106;refine(CallsIn.inRound l (callsIn_wide.2 HP.o)).mono ?_;rintro e W7 ⟨rfl,o7,g7,s7⟩;have O7:=aa o7;have G7:=aa g7;clear o7 g7 s7)
  have q7:aG (fun k=>k=g) W6 W7:=aG.dH G7.o (fun j _ e=>(Qr e).symm);have hg:=kS.o;refine⟨KeepsOthers.of_grownBy G7.o EM.o,q7,⟨?_,?_,HFI.o.sup.aL q7 (by omega),HFI.o.vb.aL q7 (by omega),HFI.o.box.aL q7 (by omega),HFI.o.low.trans (q7.below HFI.o.low.size (fun k hk e=>by omega))⟩⟩
  ·rw[Qo,ZA,←Hk.o.2.1];exact Hk.o.1
  ·have h7:=O7.o;rw[Qo,ZA,←Hk.o.2.1,Hk.o.2.2];rw[QR] at h7;exact h7
 case done=>
  rintro D W pre hD dh hI hK;have bN:=hI.own;rw[dh] at bN;have aJ:=kS.o;have hX:=Sj H.o;have HP:=aa (jM W g 0 123 123 115 8 (fW s 18) s.gen bN (by rw[gW s 18 (Qg _)];exact Qg _) (by decide) (by decide) (by rw[gW s 18 (Qg _)];decide) H.o.g);have v0:=hI.vb.cell (j:=0) rfl;have x0:W.cell? ⟨xb,0,none⟩=some (.int .u64 s.gen):=hI.sup.cell (by rw[HC.o];rfl);have HV:=aa hI.vb;have HD:Af (W5.heap.size≤D):=hD;have HK:=aa hK;have HX:=aa hX;have qm:=aa hI.low;clear bN hX hI hK hD dh aJ;go_upto_region 9 with(go_at_call 106;go_must(refine HP.o.mono ?_);rintro e W7 ⟨rfl,o7,g7,s7⟩;have O7:=aa o7;have G7:=aa g7;clear o7 g7 s7)
  have WC:=DU s 18;have hO7:=O7.o;rw[QR,HX.o] at hO7;have hbX:∀x∈qx s,aI x:=by rw[←HX.o];exact ye WC _ _ _
  have hlX:(qx s).length=123:=by rw[←HX.o,u7 (by rw[gW s 18 (Qg _)];decide),gW s 18 (Qg _)]
  have AU:=kS.o;have V7:=HV.o.grown G7.o (by intro e;have:=Qr e;omega);have v0:=V7.cell (j:=0) rfl;have iV:=hO7.bs (o:=0) (n:=123) (c:=123) (by omega) (Qg _) (by decide) hbX;rw[Zl,Qj (by omega)] at iV;have pW:=aa (uY W7 6 (.slice (some ⟨g,0,none⟩) 123 123) (qx s) ⟨by decide,by decide⟩ iV (by omega));have K7:Af (W7.heap[D]? =some (.deferred (some []))):=(G7.o.block D (Qy.1 HK.o).1 (fun e=>by have:=Qr e;have:=HD.o;omega)).trans HK.o;have L7:Af (Below w.heap.size w W7):=qm.o.grown G7.o qm.o.size (fun k e=>by have:=Qr e;omega);clear WC hO7 hbX hlX V7 iV x0 HP HV qm AU;go_wp2_with(go_at_call 107;go_must(refine pW.o.mono ?_);rintro e W8 ⟨rfl,o8,b8⟩;have O8:=aa o8;have B8:=aa b8;clear o8 b8);have K8:=(B8.o.block D (Qy.1 K7.o).1).trans K7.o;refine⟨by simp,.inl ⟨_,_,rfl,run_takeDeferred K8,?_⟩⟩;have AU:=kS.o;have hD:=HD.o;have hDl:=(Qy.1 K7.o).1;refine⟨_,results_tmp2 (t:=2) (u:=3) rfl _ _ _,W7.heap.size,L7.o.size,rfl,O8.o.aQ (World.putObj_heap_other (by omega)),?_⟩;exact(L7.o.trans (B8.o.mono L7.o.size)).trans (fM _ D _ (by omega))
end
section
open Go.RowKit Go.Shelf
attribute [local go_sem] Oper.semAt_some
theorem wrap32 {n:Int} (h0:0≤n) (h1:n<4294967296):IntKind.u32.wrap n=n:=by
 unfold IntKind.wrap;simp[IntKind.signed,IntKind.bits];omega
theorem Ve (W:Wo) (pb xb k f:Nat) (bx:Array Va) (n:Int) (C:List Va) (hs:sJ W pb k (.func (.func f) #[] bx)) (hp:aq W pb 205 [.pointer (some ⟨xb,0,none⟩)]) (hx:aq W xb 41 C) (hn:kX k n) (hC:∀j,j<18→∃u,C[j]? =some (.int (fy j) u)):
  Calls prog f (#[.int .u64 n]++bx) W fun e W' =>(∃v,e= .returned v)∧aq W' xb 41 (C.set k (.int (fy k) n))∧aG (fun j=>j=xb) W W' :=by
 have p0:=hp.cell (j:=0) rfl;have Hx:=aa hx;have jy:=hn;unfold kX at jy;rcases hs with⟨rfl,e⟩|⟨rfl,e⟩|⟨i,ib,hi,rfl,e,ub⟩|⟨i,ib,hi,rfl,e,ub⟩
 ·cases e
  obtain⟨u,hu⟩:=hC 0 (by decide);have x0:=hx.cell hu;have f0:=hx.free 0;show Calls _ _ #[.int .u64 n,.pointer (some ⟨pb,0,none⟩)] _ _;clear hp hx hn hC jy hu;go_enter func187,ntmps187;go_wp2_with fail;go_end0;exact⟨⟨_,rfl⟩,Hx.o.set 0 _,nL _ _ _ _⟩
 ·cases e
  obtain⟨u,hu⟩:=hC 1 (by decide);have x0:=hx.cell hu;have f0:=hx.free 1;have hw:=wrap32 jy.1 jy.2;show Calls _ _ #[.int .u64 n,.pointer (some ⟨pb,0,none⟩)] _ _;clear hp hx hn hC jy hu;go_enter func188,ntmps188;go_wp2_with fail;go_end0;exact⟨⟨_,rfl⟩,Hx.o.set 1 _,nL _ _ _ _⟩
 ·cases e
  obtain⟨u,hu⟩:=hC (2+i) (by omega);have hk:fy (2+i)= .u32:=by unfold fy;rw[Xd (by omega),Xo (by omega)]
  have hz:ia (i+2)=4:=by unfold ia;rw[Xd (by omega),Xo (by omega)]
  rw[hz] at jy;have x0:W.cell? ⟨xb,2+i,none⟩=some (.int .u32 u):=by rw[←hk];exact hx.cell hu
  have f0:=hx.free (2+i);have i0:=ub.cell (j:=0) rfl;have hw:=wrap32 jy.1 jy.2;have ml:(0:Int)≤i:=by omega
  have hi1:(i:Int)<8:=by omega
  have Ni:=hi;have Hk:=aa hk;show Calls _ _ #[.int .u64 n,.pointer (some ⟨pb,0,none⟩),.pointer (some ⟨ib,0,none⟩)] _ _;rw[Nat.add_comm i 2,hk];clear hp hx hn hC jy hu hk hz ub hi;go_enter func189,ntmps189;refine wp_region_still_tail 7 (by kernel_rfl) (by kernel_rfl) ?_;simp only[Zw,Zq,Zk,Zl];change wpStill _ _ (World.drew W) (fun a' =>wpList _ _ _ _ a' (World.drew W)) _ _
  repeat still_step
  refine wpStill_nil ?_;go_wp2_with fail;go_end0;exact⟨⟨_,rfl⟩,Hx.o.set (2+i) _,(nL _ _ _ _).drew⟩
 ·cases e
  obtain⟨u,hu⟩:=hC (10+i) (by omega);have hk:fy (10+i)= .u64:=by unfold fy;rw[Xd (by omega),Xd (by omega)]
  have x0:W.cell? ⟨xb,10+i,none⟩=some (.int .u64 u):=by rw[←hk];exact hx.cell hu
  have f0:=hx.free (10+i);have i0:=ub.cell (j:=0) rfl;have ml:(0:Int)≤i:=by omega
  have hi1:(i:Int)<8:=by omega
  have Ni:=hi;show Calls _ _ #[.int .u64 n,.pointer (some ⟨pb,0,none⟩),.pointer (some ⟨ib,0,none⟩)] _ _;rw[Nat.add_comm i 10,hk];clear hp hx hn hC jy hu hk ub hi;go_enter func190,ntmps190;refine wp_region_still_tail 6 (by kernel_rfl) (by kernel_rfl) ?_;simp only[Zw,Zq,Zk,Zl];change wpStill _ _ (World.drew W) (fun a' =>wpList _ _ _ _ a' (World.drew W)) _ _
  repeat still_step
  refine wpStill_nil ?_;go_wp2_with fail;go_end0;exact⟨⟨_,rfl⟩,Hx.o.set (10+i) _,(nL _ _ _ _).drew⟩
theorem Lo (bs:List Int):decide (0<Lib.maxOf bs)= !(bs.all (·≤0)):=by
 have key:∀(l:List Int) (h:Int),decide (0<l.foldl max h)= !(decide (h≤0)&&l.all (·≤0)):=by
  intro l;induction l with
  |nil=>intro h;simp only[List.foldl_nil,List.all_nil,Bool.and_true];rw[←decide_not];exact decide_eq_decide.2 (by omega)
  |cons x l ih=>
   intro h;rw[List.foldl_cons,ih,List.all_cons,←Bool.and_assoc,←Bool.decide_and];congr 2
   exact decide_eq_decide.2 (by omega)
 unfold Lib.maxOf;rw[key];cases bs with
 |nil=>rfl
 |cons x l=>rw[List.headD_cons,List.all_cons,←Bool.and_assoc,Bool.and_self]
theorem Rv (w:Wo) (B:Nat) (v:Va) (bs:List Int) (hb:Bs w B v bs) (h0:0<bs.length) (hl:bs.length≤100000):
  Calls prog 193 #[v] w fun e w' =>e= .returned (.int .u8 (Lib.maxOf bs))∧w=w' :=by
 obtain⟨b,o,c,rfl,hc,hm,EW,iH⟩:=hb.ns.cells h0;obtain⟨L,hL⟩:=eX bs.length;have HL:=aa hL;have Hc:Af (∀j,j<L→w.cell? ⟨b,o+j,none⟩=some (.int .u8 (bs.getD j 0))):=fun j hj=>iH j (by omega)
 have Hl:Af (L≤100000):=by show L≤_;omega
 have c0:=Hc.o 0 (by omega);rw[XC] at c0;have hL0:(0:Int)<L:=by omega
 have hLn:¬(L:Int)<1:=by omega
 have HM1:=aa ((Lib.maxOf_one bs).symm);rw[←hL] at hc⊢;generalize bs.getD 0 0=z at*;clear iH hL hb h0 hl EW;unfold maxLen at hm;go_enter func193,ntmps193;go_wp2_with fail;go_loopw [3,4] (fun m i wr=>∃k:Nat,1≤k∧k≤L∧i= .int .i64 k∧wr=w∧m= .int .u8 (Lib.maxOf (bs.take k))) (fun _ i _=>L - (intOf i).toNat)
 case atStart=>exact⟨1,Qg _,by omega,rfl,by first|rfl|trivial,by rw[HM1.o]⟩
 case round=>
  obtain⟨k,hk1,hk,rfl,rfl,rfl⟩:=hrel;by_cases aJ:k<L
  ·have hkL:(k:Int)<L:=by omega
   have SK:(0:Int)≤k:=by omega
   have EX:wrap64 ((k:Int)+1)=(k:Int)+1:=by have:=Hl.o;unfold wrap64;omega
   have jb:=Hc.o k aJ;have bj:=aa aJ;have Hs:=aa (Lib.maxOf_step bs k (by omega) (by have:=HL.o;omega));generalize Lib.maxOf (bs.take k)=m at*;generalize bs.getD k 0=x at*;clear aJ hk;go_wp2_with fail;go_roundw
   case rel=>exact⟨k+1,by omega,bj.o,by go_num,by first|rfl|trivial,by rw[Hs.o];first|rfl|(split<;>rfl)|trace_state⟩
   case measure=>first|exact oh bj.o|(rw[EX];exact oh bj.o)
  ·obtain rfl:k=L:=by omega
   clear aJ hk;have ahT:Af (bs.take k=bs):=Qj (by have:=HL.o;omega);go_wp2_with fail;go_ret;exact⟨by rw[ahT.o];rfl,rfl⟩
end
end Go.Proofs.YthgdhacopamklaaGreat

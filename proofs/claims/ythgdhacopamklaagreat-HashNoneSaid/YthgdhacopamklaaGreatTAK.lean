/- What HashNone asks, part 11 of 41: parts of the walks and laws, each true as it stands. -/
import Derived.Test.YthgdhacopamklaaGreatTAJ
set_option maxHeartbeats 16000000
set_option maxRecDepth 100000
set_option linter.unusedVariables false
set_option linter.unusedSimpArgs false
namespace Go.Proofs.YthgdhacopamklaaGreat
open Go.Proofs.Tryz
section
open Go.RowKit Go.Shelf
attribute [local go_sem] Oper.semAt_some
variable {P : Program} {w : Wo} {t : TypeId} {p : List Int} {gC s : aN} {slot : Nat}
theorem jR {fn:Func} {p u u' :Tmp} {a:Addr} {tmps:Array Va} {x:Va} (h:fn.results= #[.cell p t,.tmp u,.tmp u']) (hp:tmps.getD p undef= .pointer (some a)) (hl:(loadVar t a).run P w= .ok x w):
  (results fn tmps).run P w= .ok (.tuple #[x,tmps.getD u undef,tmps.getD u' undef]) w:=by
 simp only[results,h];simp only[Array.getD_eq_getD_getElem?] at hp;simp[Result.andThen,hp,hl,asAddr]
def acE (w:Wo) (p0 p1:List Int) (e:Ending) (w' :Wo):Prop:=
 Below w.heap.size w w'∧((qu p0 p1=none∧e= .returned (.tuple #[.agg (aP aV).toArray,.int .i64 0,.int .i64 60]))∨∃s,qu p0 p1=some s∧bM s∧e= .returned (.tuple #[.agg (aP s).toArray,.int .i64 (s.gen%2),.int .i64 0]))
theorem wg {ops:Array Oper} {Q:Exit→Act→Wo→Prop} {a:Act} {dst:Option Tmp} {x y:Operand} {ty:TypeId} {pos:String} {after:Array Edge} {E:Prop} {K:Act→Wo→Prop}
  (b o:Nat) (cells:Array Va) (hx:a.eval x= .pointer (some ⟨b,o,none⟩)) (hy:a.eval y= .agg cells) (ht:w.there b o cells.size) (hi:(P.info? t).map (·.size)=some cells.size) (h1:cells.all (·.oneCell')=true)
  (hk:K (a.put dst undef) (w.setCells b o cells.toList)):
  if Region.wanted ⟨dst,.store t x y,ty,pos,after,none⟩ (yielded ops a.tmps)=true then Oper.wp P ⟨dst,.store t x y,ty,pos,after,none⟩ a w K Q else E:=by
 simp only[Region.wanted,if_true];exact wp_store_mid t x y rfl b o cells hx hy ht hi h1 hk
def iB (p0 p1:List Int):Nat→aN
 |0=>aV
 |1=>nh 0 p0 aV
 |_=>nh 1 p1 (nh 0 p0 aV)
structure Oi (w:Wo) (p0 p1:List Int) (v0 v1:Va) (rb tb:Nat) (k:Nat) (wr:Wo):Prop where
 le:k≤2
 ok:bM (iB p0 p1 k)
 gC:aq wr tb 41 (aP (iB p0 p1 k))
 res:aq wr rb 41 (aP aV)
 low:Below w.heap.size w wr
 b0:Bs wr w.heap.size v0 p0
 b1:Bs wr w.heap.size v1 p1
theorem Oi.on {wr W:Wo} {p0 p1:List Int} {v0 v1:Va} {rb tb k:Nat} (h:Oi w p0 p1 v0 v1 rb tb k wr) (hb:Below wr.heap.size wr W):Oi w p0 p1 v0 v1 rb tb k W:=
 ⟨h.le,h.ok,h.gC.on hb,h.res.on hb,h.low.trans (hb.mono h.low.size),⟨h.b0.1.below (hb.mono h.low.size),h.b0.2⟩,⟨h.b1.1.below (hb.mono h.low.size),h.b1.2⟩⟩
theorem uQ (W:Wo) (C:List Va) (hl:C.length=18):(W.alloc (.cells (aP aV).toArray 41)).there W.heap.size 0 C.toArray.size:=there_alloc W _ _ _ (by rw[QW,hl];exact Qg 18)
theorem Po (x y:Va) (w:Wo):(Instr.index 219 (.agg #[x,y]) (.int .i64 0)).run prog w= .ok x w∧(Instr.index 219 (.agg #[x,y]) (.int .i64 1)).run prog w= .ok y w:=⟨by kernel_rfl,by kernel_rfl⟩
theorem Jt (w:Wo) (v:Va) (p:List Int) (h:Bs w w.heap.size v p) (hd:kA p=none):Calls prog 116 #[v] w fun e w' =>e= .returned (.tuple #[.agg (aP aV).toArray,.int .i64 60])∧Below w.heap.size w w' :=
 (CU w v p h).mono fun e w' ⟨hb,h1⟩=>by
  rcases h1 with⟨-,h1⟩|⟨s,h2,-,-⟩
  ·exact⟨h1,hb⟩
  ·rw[hd] at h2;cases h2
theorem CT (w:Wo) (v:Va) (p:List Int) (h:Bs w w.heap.size v p) (s:aN) (hd:kA p=some s):Calls prog 116 #[v] w fun e w' =>e= .returned (.tuple #[.agg (aP s).toArray,.int .i64 0])∧Below w.heap.size w w' :=
 (CU w v p h).mono fun e w' ⟨hb,h1⟩=>by
  rcases h1 with⟨h2,-⟩|⟨s',h2,-,h3⟩
  ·rw[hd] at h2;cases h2
  ·rw[hd] at h2;cases h2;exact⟨h3,hb⟩
theorem zQ (hb:∀x∈p,aI x) (hd:kA p=some s):bM s:=by
 unfold kA at hd;cases ho:dy p with
 |none=>rw[ho] at hd;cases hd
 |some q=>
  obtain⟨k,body⟩:=q;rw[ho] at hd;dsimp only at hd;split at hd
  ·cases hd
   exact xO (jO ho hb).2.2
  ·cases hd
theorem Db (h:kA p=none):nh slot p gC=gC:=by unfold nh;rw[h]
theorem vY (h:kA p=some s):nh slot p gC=if s.gen%2=slot∧gC.gen<s.gen then s else gC:=by unfold nh;rw[h]
theorem nI (W:Wo) (C:List Va) (t:TypeId) (Z:List Va) (hl:C.length=Z.length):Below W.heap.size W ((W.alloc (.cells Z.toArray t)).setCells W.heap.size 0 C)∧aq ((W.alloc (.cells Z.toArray t)).setCells W.heap.size 0 C) W.heap.size t C:=
 ⟨kF (Qg _) _ _ _ (aF W _),(show aq _ W.heap.size t Z from ar W Z t).fill hl⟩
theorem KV (w:Wo) (v0 v1:Va) (p0 p1:List Int) (h0:Bs w w.heap.size v0 p0) (h1:Bs w w.heap.size v1 p1):
  Calls prog 50 #[v0,v1] w (acE w p0 p1):=by
 obtain⟨A0,c0,rfl,-,-⟩:=h0.1.form;obtain⟨A1,c1,rfl,-,-⟩:=h1.1.form;obtain⟨W0,aY⟩:=eX (w.alloc (.cells (aP aV).toArray 41));obtain⟨W1,aW⟩:=eX (W0.alloc (.cells (aP aV).toArray 41));obtain⟨tb,pS⟩:=eX W0.heap.size;have r0:aq W0 w.heap.size 41 (aP aV):=by rw[aY];exact ar w _ _
 have b0:Below w.heap.size w W0:=by rw[aY];exact aF _ _
 have b1:Below W0.heap.size W0 W1:=by rw[aW];exact aF _ _
 have t1:aq W1 tb 41 (aP aV):=by rw[aW,pS];exact ar W0 _ _
 have WL:=b0.trans (b1.mono b0.size);have ST1:Af (Oi w p0 p1 (.slice A0 p0.length c0) (.slice A1 p1.length c1) w.heap.size tb 0 W1):=
  ⟨by decide,Cb,t1,r0.on b1,WL,⟨h0.1.below WL,h0.2⟩,⟨h1.1.below WL,h1.2⟩⟩
 have fq:Af (w.heap.size<tb):=by show _<_;rw[pS];exact r0.lt
 have fD:=aa aY.symm;have gB:=aa aW.symm;have Htb:=aa pS.symm;obtain⟨m0,xB⟩:=eX p0.length;obtain⟨m1,Az⟩:=eX p1.length;have Hm:=dK xB Az;rw[←xB,←Az] at ST1⊢;clear h0 h1 aY aW pS r0 b0 b1 t1 WL xB Az;go_enter func50,ntmps50;go_upto_region 1 with fail
 change Code.wp _ _ _ _ (w.alloc (.cells (aP aV).toArray 41));rw[fD.o];go_upto_region 2 with fail
 change Code.wp _ _ _ _ (W0.alloc (.cells (aP aV).toArray 41));rw[gB.o,Htb.o];clear fD gB Htb;go_wp2_with fail;go_loopw [15] (fun i wr=>∃k:Nat,i= .int .i64 k∧Af (Oi w p0 p1 (.slice A0 m0 c0) (.slice A1 m1 c1) w.heap.size tb k wr)) (fun i _=>2 - (intOf i).toNat)
 case atStart=>exact⟨0,rfl,ST1.o⟩
 case round=>
  obtain⟨k,rfl,HS⟩:=hrel;rcases(show k=0∨k=1∨k=2 by have:=HS.o.le;omega) with hk|hk|hk
  ·subst hk;rw[show((0:Nat):Int)=(0:Int) from rfl];have hix:=(Po (.slice A0 m0 c0) (.slice A1 m1 c1) wr).1;have iV:Bs wr wr.heap.size (.slice A0 m0 c0) p0:=⟨HS.o.b0.1.more HS.o.low.size,HS.o.b0.2⟩;obtain⟨Z,hZ⟩:=eX (aP aV);have HZl:Af (Z.length=18):=by show _=_;rw[hZ];rfl
   have HZ1:Af (Z.toArray.all (·.oneCell')=true):=by show _=_;rw[hZ];exact fJ
   have HZs:Af ((prog.info? 41).map (·.size)=some Z.toArray.size):=by show _=_;rw[QW,HZl.o];exact ka
   cases hdec:kA p0 with
   |none=>
    have HD:=aa (Jt wr _ _ iV hdec);rw[←hZ] at HD;clear hZ;have Hn:Af (iB p0 p1 (0+1)=iB p0 p1 0):=Db hdec;clear hdec iV;go_upto_region 6 with(first
     |(go_at_call 116;go_must(refine HD.o.mono ?_);rintro e W2 ⟨rfl,b2⟩;have B2:=aa b2;clear b2)
     |((refine wpList_store_mid rfl 41 _ _ rfl W2.heap.size 0 Z.toArray ?_ ?_ ?_ HZs.o HZ1.o ?_);go_must((·rfl);(·rfl);(·exact uQ W2 Z HZl.o);go_frame)))
    change Code.wp _ _ _ _ ((W2.alloc (.cells (aP aV).toArray 41)).setCells W2.heap.size 0 Z);obtain⟨b3,x3⟩:=nI W2 Z 41 (aP aV) HZl.o;generalize (W2.alloc (.cells (aP aV).toArray 41)).setCells W2.heap.size 0 Z=W3 at*;have dZ:=aa (HS.o.on (B2.o.trans (b3.mono B2.o.size)));clear b3 x3 HD;go_wp2_with fail;go_roundw
    case rel=>exact⟨0+1,by first|rfl|trivial,by decide,by rw[Hn.o];exact dZ.o.ok,by rw[Hn.o];exact dZ.o.gC,dZ.o.res,dZ.o.low,dZ.o.b0,dZ.o.b1⟩
    case measure=>decide
   |some s=>
    have HD:=aa (CT wr _ _ iV s hdec);have qe:=aa (zQ iV.2 hdec);have Hn:Af (iB p0 p1 (0+1)=if s.gen%2=(0:Nat)∧(iB p0 p1 0).gen<s.gen then s else iB p0 p1 0):=vY hdec;obtain⟨C,hC⟩:∃C,C=aP s:=⟨_,rfl⟩;have HC:=aa hC;have je:Af (C.length=18):=by show _=_;rw[HC.o];exact bK qe.o
    have su:Af (C.toArray.all (·.oneCell')=true):=by show _=_;rw[HC.o];exact all_oneCell_toArray (jI _)
    have wO:Af ((prog.info? 41).map (·.size)=some C.toArray.size):=by show _=_;rw[QW,je.o];exact ka
    rw[←hC] at HD;clear hdec iV hC;go_upto_region 6 with(first
     |(go_at_call 116;go_must(refine HD.o.mono ?_);rintro e W2 ⟨rfl,b2⟩;have B2:=aa b2;clear b2)
     |((refine wpList_store_mid rfl 41 _ _ rfl W2.heap.size 0 C.toArray ?_ ?_ ?_ wO.o su.o ?_);go_must((·rfl);(·rfl);(·exact uQ W2 C je.o);go_frame)))
    change Code.wp _ _ _ _ ((W2.alloc (.cells (aP aV).toArray 41)).setCells W2.heap.size 0 C);obtain⟨b3,x3⟩:=nI W2 C 41 (aP aV) je.o;obtain⟨xb,eD⟩:=eX W2.heap.size;rw[←eD] at x3⊢;have dZ:=aa (HS.o.on (B2.o.trans ((by rw[eD] at*;exact b3:Below W2.heap.size W2 ((W2.alloc (.cells (aP aV).toArray 41)).setCells xb 0 C)).mono B2.o.size)));clear b3;generalize (W2.alloc (.cells (aP aV).toArray 41)).setCells xb 0 C=W3 at*;have X3:=aa x3;have x0:W3.cell? ⟨xb,0,none⟩=some (.int .u64 s.gen):=x3.cell (by rw[HC.o];rfl);have t0:W3.cell? ⟨tb,0,none⟩=some (.int .u64 (iB p0 p1 0).gen):=dZ.o.gC.cell rfl;have pW:=aa (uW W3 s.gen qe.o.g);have HL:=aa (ef (w:=W3) (b:=xb) (cs:=C) je.o (fun j v hj=>x3.cell hj));obtain⟨bg,Np⟩:=eX ((iB p0 p1 0).gen);rw[←Np] at t0 Hn;obtain⟨sg,Ay⟩:=eX s.gen;rw[←Ay] at x0 Hn pW;obtain⟨sl,kr⟩:=eX (sg%2);rw[←kr] at Hn pW;clear x3 eD HD Np Ay kr;by_cases hs:sl=((0:Nat):Int)
    ·by_cases hg:bg<sg
     ·rw[Xo ⟨hs,hg⟩] at Hn;subst hs;go_wp2_with(first
       |(go_at_call 117;go_must(refine pW.o.mono ?_);rintro e W4 ⟨rfl,rfl⟩)
       |((with_reducible refine wl_load _ _ ?_ HL.o ?_);go_must((·rfl);go_frame))
       |((refine wpList_store_mid rfl 41 _ _ rfl tb 0 C.toArray ?_ ?_ (dX dZ.o.gC ?_) wO.o su.o ?_);go_must((·rfl);(·rfl);(·exact Xg (by rw[QW,je.o,bK dZ.o.ok]));go_frame)))
      go_roundw
      case rel=>have c4:=cN (S:=fun x=>x=tb) rfl C 0 W3 (aG.refl _ W3);have aJ:=fq.o;have aU:=c4.below dZ.o.low.size (fun x hx e=>by omega);refine⟨0+1,by first|rfl|trivial,by decide,by rw[Hn.o];exact qe.o,?_,dZ.o.res.aL c4 (by omega),dZ.o.low.trans aU,⟨dZ.o.b0.1.below aU,dZ.o.b0.2⟩,⟨dZ.o.b1.1.below aU,dZ.o.b1.2⟩⟩;rw[Hn.o,←HC.o];exact dZ.o.gC.fill (by rw[je.o,bK dZ.o.ok])
      case measure=>decide
     ·rw[Xd (fun e=>hg e.2)] at Hn;subst hs;go_wp2_with(go_at_call 117;go_must(refine pW.o.mono ?_);rintro e W4 ⟨rfl,rfl⟩);go_roundw
      case rel=>exact⟨0+1,by first|rfl|trivial,by decide,by rw[Hn.o];exact dZ.o.ok,by rw[Hn.o];exact dZ.o.gC,dZ.o.res,dZ.o.low,dZ.o.b0,dZ.o.b1⟩
      case measure=>decide
    ·rw[Xd (fun e=>hs e.1)] at Hn;go_wp2_with(go_at_call 117;go_must(refine pW.o.mono ?_);rintro e W4 ⟨rfl,rfl⟩);go_roundw
     case rel=>exact⟨0+1,by first|rfl|trivial,by decide,by rw[Hn.o];exact dZ.o.ok,by rw[Hn.o];exact dZ.o.gC,dZ.o.res,dZ.o.low,dZ.o.b0,dZ.o.b1⟩
     case measure=>decide
  ·subst hk;rw[show((1:Nat):Int)=(1:Int) from rfl];have hix:=(Po (.slice A0 m0 c0) (.slice A1 m1 c1) wr).2;have iV:Bs wr wr.heap.size (.slice A1 m1 c1) p1:=⟨HS.o.b1.1.more HS.o.low.size,HS.o.b1.2⟩;obtain⟨Z,hZ⟩:=eX (aP aV);have HZl:Af (Z.length=18):=by show _=_;rw[hZ];rfl
   have HZ1:Af (Z.toArray.all (·.oneCell')=true):=by show _=_;rw[hZ];exact fJ
   have HZs:Af ((prog.info? 41).map (·.size)=some Z.toArray.size):=by show _=_;rw[QW,HZl.o];exact ka
   cases hdec:kA p1 with
   |none=>
    have HD:=aa (Jt wr _ _ iV hdec);rw[←hZ] at HD;clear hZ;have Hn:Af (iB p0 p1 (1+1)=iB p0 p1 1):=Db hdec;clear hdec iV;go_upto_region 6 with(first
     |(go_at_call 116;go_must(refine HD.o.mono ?_);rintro e W2 ⟨rfl,b2⟩;have B2:=aa b2;clear b2)
     |((refine wpList_store_mid rfl 41 _ _ rfl W2.heap.size 0 Z.toArray ?_ ?_ ?_ HZs.o HZ1.o ?_);go_must((·rfl);(·rfl);(·exact uQ W2 Z HZl.o);go_frame)))
    change Code.wp _ _ _ _ ((W2.alloc (.cells (aP aV).toArray 41)).setCells W2.heap.size 0 Z);obtain⟨b3,x3⟩:=nI W2 Z 41 (aP aV) HZl.o;generalize (W2.alloc (.cells (aP aV).toArray 41)).setCells W2.heap.size 0 Z=W3 at*;have dZ:=aa (HS.o.on (B2.o.trans (b3.mono B2.o.size)));clear b3 x3 HD;go_wp2_with fail;go_roundw
    case rel=>exact⟨1+1,by first|rfl|trivial,by decide,by rw[Hn.o];exact dZ.o.ok,by rw[Hn.o];exact dZ.o.gC,dZ.o.res,dZ.o.low,dZ.o.b0,dZ.o.b1⟩
    case measure=>decide
   |some s=>
    have HD:=aa (CT wr _ _ iV s hdec);have qe:=aa (zQ iV.2 hdec);have Hn:Af (iB p0 p1 (1+1)=if s.gen%2=(1:Nat)∧(iB p0 p1 1).gen<s.gen then s else iB p0 p1 1):=vY hdec;obtain⟨C,hC⟩:∃C,C=aP s:=⟨_,rfl⟩;have HC:=aa hC;have je:Af (C.length=18):=by show _=_;rw[HC.o];exact bK qe.o
    have su:Af (C.toArray.all (·.oneCell')=true):=by show _=_;rw[HC.o];exact all_oneCell_toArray (jI _)
    have wO:Af ((prog.info? 41).map (·.size)=some C.toArray.size):=by show _=_;rw[QW,je.o];exact ka
    rw[←hC] at HD;clear hdec iV hC;go_upto_region 6 with(first
     |(go_at_call 116;go_must(refine HD.o.mono ?_);rintro e W2 ⟨rfl,b2⟩;have B2:=aa b2;clear b2)
     |((refine wpList_store_mid rfl 41 _ _ rfl W2.heap.size 0 C.toArray ?_ ?_ ?_ wO.o su.o ?_);go_must((·rfl);(·rfl);(·exact uQ W2 C je.o);go_frame)))
    change Code.wp _ _ _ _ ((W2.alloc (.cells (aP aV).toArray 41)).setCells W2.heap.size 0 C);obtain⟨b3,x3⟩:=nI W2 C 41 (aP aV) je.o;obtain⟨xb,eD⟩:=eX W2.heap.size;rw[←eD] at x3⊢;have dZ:=aa (HS.o.on (B2.o.trans ((by rw[eD] at*;exact b3:Below W2.heap.size W2 ((W2.alloc (.cells (aP aV).toArray 41)).setCells xb 0 C)).mono B2.o.size)));clear b3;generalize (W2.alloc (.cells (aP aV).toArray 41)).setCells xb 0 C=W3 at*;have X3:=aa x3;have x0:W3.cell? ⟨xb,0,none⟩=some (.int .u64 s.gen):=x3.cell (by rw[HC.o];rfl);have t0:W3.cell? ⟨tb,0,none⟩=some (.int .u64 (iB p0 p1 1).gen):=dZ.o.gC.cell rfl;have pW:=aa (uW W3 s.gen qe.o.g);have HL:=aa (ef (w:=W3) (b:=xb) (cs:=C) je.o (fun j v hj=>x3.cell hj));obtain⟨bg,Np⟩:=eX ((iB p0 p1 1).gen);rw[←Np] at t0 Hn;obtain⟨sg,Ay⟩:=eX s.gen;rw[←Ay] at x0 Hn pW;obtain⟨sl,kr⟩:=eX (sg%2);rw[←kr] at Hn pW;clear x3 eD HD Np Ay kr;by_cases hs:sl=((1:Nat):Int)
    ·by_cases hg:bg<sg
     ·rw[Xo ⟨hs,hg⟩] at Hn;subst hs;go_wp2_with(first
       |(go_at_call 117;go_must(refine pW.o.mono ?_);rintro e W4 ⟨rfl,rfl⟩)
       |((with_reducible refine wl_load _ _ ?_ HL.o ?_);go_must((·rfl);go_frame))
       |((refine wpList_store_mid rfl 41 _ _ rfl tb 0 C.toArray ?_ ?_ (dX dZ.o.gC ?_) wO.o su.o ?_);go_must((·rfl);(·rfl);(·exact Xg (by rw[QW,je.o,bK dZ.o.ok]));go_frame)))
      go_roundw
      case rel=>have c4:=cN (S:=fun x=>x=tb) rfl C 0 W3 (aG.refl _ W3);have aJ:=fq.o;have aU:=c4.below dZ.o.low.size (fun x hx e=>by omega);refine⟨1+1,by first|rfl|trivial,by decide,by rw[Hn.o];exact qe.o,?_,dZ.o.res.aL c4 (by omega),dZ.o.low.trans aU,⟨dZ.o.b0.1.below aU,dZ.o.b0.2⟩,⟨dZ.o.b1.1.below aU,dZ.o.b1.2⟩⟩;rw[Hn.o,←HC.o];exact dZ.o.gC.fill (by rw[je.o,bK dZ.o.ok])
      case measure=>decide
     ·rw[Xd (fun e=>hg e.2)] at Hn;subst hs;go_wp2_with(go_at_call 117;go_must(refine pW.o.mono ?_);rintro e W4 ⟨rfl,rfl⟩);go_roundw
      case rel=>exact⟨1+1,by first|rfl|trivial,by decide,by rw[Hn.o];exact dZ.o.ok,by rw[Hn.o];exact dZ.o.gC,dZ.o.res,dZ.o.low,dZ.o.b0,dZ.o.b1⟩
      case measure=>decide
    ·rw[Xd (fun e=>hs e.1)] at Hn;go_wp2_with(go_at_call 117;go_must(refine pW.o.mono ?_);rintro e W4 ⟨rfl,rfl⟩);go_roundw
     case rel=>exact⟨1+1,by first|rfl|trivial,by decide,by rw[Hn.o];exact dZ.o.ok,by rw[Hn.o];exact dZ.o.gC,dZ.o.res,dZ.o.low,dZ.o.b0,dZ.o.b1⟩
     case measure=>decide
  ·subst hk;rw[show((2:Nat):Int)=(2:Int) from rfl];obtain⟨s,hs⟩:=eX (iB p0 p1 2);have Hs:Af (qu p0 p1=if s.gen=0 then none else some s):=by show _=_;rw[hs];rfl
   have qe:Af (bM s):=by show bM _;rw[hs];exact HS.o.ok
   have HB:Af (aq wr tb 41 (aP s)):=by show aq _ _ _ _;rw[hs];exact HS.o.gC
   have HR:=aa HS.o.res;have qm:=aa HS.o.low;have t0:wr.cell? ⟨tb,0,none⟩=some (.int .u64 s.gen):=HB.o.cell rfl;clear hs;by_cases hg:s.gen=0
   ·have jY:(s.gen==0)=true:=by rw[hg];rfl
    rw[Xo hg] at Hs;go_wp2_with(((refine wpList_store_mid rfl 41 _ _ rfl w.heap.size 0 (aP aV).toArray ?_ ?_ (dX HR.o ?_) ?_ fJ ?_);go_must((·rfl);(·rfl);(·exact Qg _);(·exact ka);go_frame)));have C3:=cN (S:=fun x=>x=w.heap.size) rfl (aP aV) 0 wr (aG.refl _ wr);have R3:=HR.o.fill (vs:=aP aV) rfl;refine bodyPost_ret (jR rfl rfl (eZ (cs:=aP aV) rfl (fun j v hj=>R3.cell hj))) rfl ?_;exact⟨qm.o.trans (C3.below qm.o.size (fun x hx e=>by omega)),.inl ⟨Hs.o,rfl⟩⟩
   ·rw[Xd hg] at Hs;obtain⟨C,hC⟩:∃C,C=aP s:=⟨_,rfl⟩;have HC:=aa hC;have je:Af (C.length=18):=by show _=_;rw[HC.o];exact bK qe.o
    have su:Af (C.toArray.all (·.oneCell')=true):=by show _=_;rw[HC.o];exact all_oneCell_toArray (jI _)
    have wO:Af ((prog.info? 41).map (·.size)=some C.toArray.size):=by show _=_;rw[QW,je.o];exact ka
    rw[←hC] at HB;have jY:=Xc hg;have pW:=aa (fun W=>uW W s.gen qe.o.g);have HL:=aa (fun (W:Wo) (j:aq W tb 41 C)=>ef (w:=W) (b:=tb) (cs:=C) je.o (fun j' v hj=>j.cell hj));obtain⟨sg,Ay⟩:=eX s.gen;have Hsg:=aa Ay;rw[←Ay] at t0 pW jY;have t1:=t0;have HBd:Af (aq wr.drew tb 41 C):=HB;have xF:=aa (HL.o wr.drew HBd.o);clear hC Ay hg;go_upto_region 11 with fail
    have hS:=HBd.o;refine wp_region_held_drew (S:=fun W=>aq W tb 41 C) (by kernel_rfl) hS (fun _=> ?_);refine wpAnyH_take (i:=0) (v:= .agg C.toArray) rfl (by kernel_rfl) (by kernel_rfl) (by kernel_rfl) (fun _ _ _ h=>h) (Or.inl ⟨by rfl,fun W hW=>lq (.pointer (some ⟨tb,0,none⟩)) _ rfl (HL.o W hW)⟩) hS ?_
    try simp only[Act.put]
    refine wpAnyH_take (i:=1) (v:= .pointer (some ⟨tb,0,none⟩)) rfl (by kernel_rfl) (by kernel_rfl) (by kernel_rfl) (fun _ _ _ h=>h) (Or.inl ⟨by rfl,fun W hW=>by go_simp⟩) hS ?_
    try simp only[Act.put]
    refine wpAnyH_take (i:=2) (v:= .int .u64 sg) rfl (by kernel_rfl) (by kernel_rfl) (by kernel_rfl) (fun _ _ _ h=>h) (Or.inl ⟨by rfl,fun W hW=>by have hx:=aq.cell (j:=0) (u:= .int .u64 sg) hW (by rw[HC.o,Hsg.o];rfl);go_simp⟩) hS ?_
    try simp only[Act.put]
    refine wpAnyH_ready (rs:=[3]) (by kernel_rfl) (by simp) ?_;refine AllReadyH.cons rfl (fun K hK=> ?_) AllReadyH.nil;go_simp;go_at_call 117;refine(pW.o _).mono ?_;rintro e W4 ⟨rfl,rfl⟩;go_simp;refine hK.out _ _ hS (fun hS=> ?_);clear hK K
    try simp only[Act.put]
    refine wpAnyH_ready (rs:=[4]) (by kernel_rfl) (by simp) ?_;refine AllReadyH.cons rfl (fun K hK=> ?_) AllReadyH.nil;refine wg w.heap.size 0 C.toArray rfl rfl (dX (w:=wr.drew) HR.o (Xg (by rw[QW,je.o];rfl))) wO.o su.o ?_;have C3:=cN (S:=fun x=>x=w.heap.size) rfl C 0 wr.drew (aG.refl _ wr.drew);have R3:aq (wr.drew.setCells w.heap.size 0 C) w.heap.size 41 C:=aq.fill (w:=wr.drew) HR.o (vs:=C) (by rw[je.o];rfl);have T3:aq (wr.drew.setCells w.heap.size 0 C) tb 41 C:=HBd.o.aL C3 (by have:=fq.o;omega);refine hK.out _ _ T3 (fun hS=> ?_);clear hK K
    try simp only[Act.put]
    refine wpAnyH_take (i:=5) (v:= .int .i64 (sg%2)) rfl (by kernel_rfl) (by kernel_rfl) (by kernel_rfl) (fun _ _ _ h=>h) (Or.inl ⟨by rfl,fun W hW=>by go_simp⟩) hS ?_
    try simp only[Act.put]
    refine wpAnyH_take (i:=6) (v:= .int .i64 0) rfl (by kernel_rfl) (by kernel_rfl) (by kernel_rfl) (fun _ _ _ h=>h) (Or.inl ⟨by rfl,fun W hW=>by go_simp⟩) hS ?_
    try simp only[Act.put]
    refine wpAnyH_done (by kernel_rfl) ?_ _;go_wp2_with fail;refine bodyPost_ret (jR rfl rfl (eZ (cs:=C) je.o (fun j v hj=>R3.cell hj))) rfl ?_;refine⟨(below_drewN qm.o 1).trans (C3.below qm.o.size (fun x hx e=>by omega)),.inr ⟨s,Hs.o,qe.o,?_⟩⟩;rw[←Hsg.o,←HC.o];rfl
end
section
open Go.RowKit
attribute [local go_sem] Oper.semAt_some
theorem RK:∃i,prog.info? 3=some i∧i.zero=some (.int .i64 0)∧i.size=1∧i.bytes=8:=by
 obtain⟨i0,hi,oI,mM,xw⟩:=info_parts iE;exact⟨i0,hi,oI,mM,xw⟩
theorem LG (w:Wo) (n:Nat) (hn:n≤1000000):
  Calls prog 194 #[.slice none 0 0,.int .i64 n] w fun e w' =>∃v',e= .returned v'∧aB w' w.heap.size 3 .i64 v' []∧Below w.heap.size w w' :=by
 by_cases h0:n=0
 ·subst h0;go_enter func194,ntmps194;go_wp2_with fail;go_ret;exact⟨_,rfl,cQ _ _ _ _,Xj _ _⟩
 ·have Bu:Af (∀ty,(Builtin.append_ #[34,3] ty #[.slice none 0 0,.int .i64 n]).run prog w= .ok (.slice (some ⟨w.heap.size,0,none⟩) n (grownCap w n 0 3)) (w.drew.alloc (.cells (Builtin.zeroCells #[.int .i64 0] n++Builtin.zeroCells #[.int .i64 0] (grownCap w n 0 3 - n)) 3))):=by intro ty;obtain⟨i,hi,hz,hs,hb⟩:=RK;exact Lib.run_append_nil_zeros w 34 3 ty 3 i _ .i64 .i64 underlying34 underlying3 hi hz n (by omega) (by omega) (by omega) (by rw[hb];omega)
  have pj:n≤grownCap w n 0 3:=grownCap_ge _ _ _ _;have hle:=aa (grownCap_le_maxLen w n 0 3 (by unfold maxLen;omega));generalize AB:grownCap w n 0 3=cc at*;clear AB;have nZ:IntKind.i64.wrap (n:Int)=(n:Int):=by rw[XN];omega
  go_enter func194,ntmps194;go_wp2_with(at_builtin;refine Lib.wpList_append_run _ rfl _ _ _ _ rfl _ _ rfl rfl _ _ (Bu.o _) ?_);go_ret;refine⟨_,rfl,⟨rfl,.inr ⟨_,cc,_,rfl,Qg _,heap_alloc_new w.drew _,Qp _,hle.o,?_,rfl⟩⟩,below_drewN ((Xj _ _).alloc (Qg _) _) 1⟩;simp[size_zeroCells];omega
def NsL (w:Wo) (v:Va) (ls:List (Va×List Int)):Prop:=Sl w w.heap.size 1 v ls.length (ls.map Prod.fst)∧∀p∈ls,Ns w w.heap.size .i64 p.1 p.2
def iL (ls:List (Va×List Int)):Nat:=(ls.flatMap Prod.snd).length
theorem yu (ls:List (Va×List Int)) (k:Nat) (p:Va×List Int) (h:ls[k]? =some p):iL (ls.take (k+1))=iL (ls.take k)+p.2.length:=by
 unfold iL;rw[aA ls k p h,QP,Qo];simp
theorem Jk (ls:List (Va×List Int)) (k:Nat):iL (ls.take k)≤iL ls:=by
 unfold iL
 conv=>rhs;rw[←XW k ls,QP,Qo]
 exact XM _ _
theorem nQ (w:Wo) (v:Va) (ls:List (Va×List Int)) (h:NsL w v ls) (hl:ls.length≤10000) (ht:iL ls≤100000):
  Calls prog 119 #[v] w fun e w' =>∃v',e= .returned v'∧aB w' w.heap.size 3 .i64 v' (ls.flatMap Prod.snd)∧Below w.heap.size w w' :=by
 obtain⟨A,c,rfl,jb,pk⟩:=Sl.form h.1;obtain⟨n,hn⟩:∃n,n=ls.length:=⟨_,rfl⟩;have H:=aa h;have Hn:Af (n=ls.length∧n≤10000∧iL ls≤100000):=⟨hn,by omega,ht⟩;rw[←hn];clear h hl hn jb pk ht;go_enter func119,ntmps119;go_wp2_with fail;go_loop [11,3] (fun i s=>∃k:Nat,k≤n∧i= .int .i64 k∧s= .int .i64 (iL (ls.take k))) (fun i _=>n - (intOf i).toNat)
 case atStart=>exact⟨0,Qp _,rfl,rfl⟩
 case round=>
  obtain⟨k,hk,rfl,rfl⟩:=hrel;by_cases aJ:k<n
  ·have bQ:k<ls.length:=by have:=Hn.o;omega
   obtain⟨b,o,c',hv,-,-,dL⟩:=H.o.1.row (by omega);cases hv
   obtain⟨p,hp⟩:∃p,p=ls[k]:=⟨_,rfl⟩;have qZ:ls[k]? =some p:=by rw[hp];exact Qf bQ
   obtain⟨Ap,cp,pY,-,-⟩:=(H.o.2 p (Qi qZ)).form;obtain⟨pv,pl⟩:=p;have wT:pv= .slice Ap pl.length cp:=pY;subst wT;have y0:w.cell? ⟨b,o+k,none⟩=some (.slice Ap pl.length cp):=dL.2 k _ (by rw[Qt,qZ];rfl);have uz:iL (ls.take (k+1))=iL (ls.take k)+pl.length:=yu ls k _ qZ;have hle:=Jk ls (k+1);have abz:=aa uz;have mW:=Hn.o.2.2;have fp:wrap64 ((k:Int)+1)=(k:Int)+1:=by unfold wrap64;have:=Hn.o;omega
   have DZ:wrap64 ((iL (ls.take k):Int)+pl.length)=(iL (ls.take (k+1)):Int):=by unfold wrap64;omega
   have aa1:¬((iL (ls.take (k+1)):Nat):Int)<0:=by omega
   have bj:=aa aJ;have eu:=aa fp;have hi:(k:Int)<n:=by omega
   have ml:(0:Int)≤k:=by omega
   have H1:Af (∃s1,s1=iL (ls.take (k+1))):=⟨_,rfl⟩;obtain⟨s1,Ip⟩:=H1.o;rw[←Ip] at DZ aa1;have Hs1:=aa Ip;generalize iL (ls.take k)=s0 at*;clear hp qZ pY dL uz hle aJ bQ hk mW Ip abz H1;go_wp2_with fail;go_round
   case rel=>exact⟨k+1,bj.o,by first|rfl|(rw[eu.o];rfl),by rw[←Hs1.o,DZ]⟩
   case measure=>first|exact al bj.o|(rw[eu.o];exact al bj.o)
  ·have cH:k=n:=by omega
   subst cH;have e1:ls.take k=ls:=Qj (by have:=Hn.o;omega);rw[e1];have HG:=aa (LG w (iL ls) (by have:=Hn.o;omega));have Ht:=aa Hn.o.2.2;obtain⟨tot,mW⟩:∃t,t=iL ls:=⟨_,rfl⟩;rw[←mW] at HG Ht⊢;have aby:Af (iL ls=tot):=mW.symm;clear mW;have hi:¬(k:Int)<k:=by omega
   clear e1 aJ hk;go_wp2_with(go_at_call 194;go_must(refine HG.o.mono ?_);rintro e W2 ⟨v2,rfl,o2,b2⟩;have O2:=aa o2;have B2:=aa b2;clear o2 b2);clear HG;have HtL:Af (∀j,iL (ls.take j)≤tot):=fun j=>Qh (Jk ls j) (Xg (aby.o))
   go_loopw [27,6] (fun i v wr=>∃j:Nat,i= .int .i64 j∧Af (j≤k∧aB wr w.heap.size 3 .i64 v ((ls.take j).flatMap Prod.snd)∧Below w.heap.size w wr)) (fun i _ _=>k - (intOf i).toNat)
   case atStart=>exact⟨0,rfl,Qp _,O2.o,B2.o⟩
   case round=>
    obtain⟨j,rfl,HR⟩:=hrel;obtain⟨A0,n0,c0,Ew⟩:=HR.o.2.1.bu;subst Ew;by_cases aJ:j<k
    ·have bQ:j<ls.length:=by have:=Hn.o;omega
     obtain⟨b,o,c',hv,-,-,dL⟩:=H.o.1.row (by omega);cases hv
     obtain⟨p,hp⟩:∃p,p=ls[j]:=⟨_,rfl⟩;have qZ:ls[j]? =some p:=by rw[hp];exact Qf bQ
     have Iq:=H.o.2 p (Qi qZ);obtain⟨Ap,cp,pY,-,-⟩:=Iq.form;obtain⟨pv,pl⟩:=p;have wT:pv= .slice Ap pl.length cp:=pY;subst wT;have y0:wr.cell? ⟨b,o+j,none⟩=some (.slice Ap pl.length cp):=(HR.o.2.2.cell (p:=⟨b,o+j,none⟩) dL.1).trans (dL.2 j _ (by rw[Qt,qZ];rfl));have fp:wrap64 ((j:Int)+1)=(j:Int)+1:=by unfold wrap64;have:=Hn.o;omega
     have hlen:((ls.take j).flatMap Prod.snd).length+pl.length≤1000000:=by have h1:iL (ls.take (j+1))=iL (ls.take j)+pl.length:=yu ls j _ qZ;have h2:=HtL.o (j+1);have h3:=Ht.o;show iL (ls.take j)+_≤_;omega
     have Ir:(ls.take (j+1)).flatMap Prod.snd=(ls.take j).flatMap Prod.snd++pl:=by rw[aA ls j _ qZ,QP];simp
     have lD:=aa hlen;have Hfl:=aa Ir;have tJ:=aa HR.o.2.1;have IB:=aa (Ns.below Iq HR.o.2.2);have rk:=aa HR.o.2.2;have bj:=aa aJ;have eu:=aa fp;have Ni:(j:Int)<k:=by omega
     have ml:(0:Int)≤j:=by omega
     clear hp qZ Iq pY dL bQ aJ hlen Ir HR;go_wp2_with(at_builtin;(with_reducible refine wl_appNs NKi (os:= .tmp 31) (ox:= .tmp 32) w.heap.size _ _ tJ.o _ _ IB.o ?_ ?_ ?_ ?_ ?_);go_must((·exact lD.o);(·exact rk.o.size);(·rfl);(·rfl);intro v' w' ho hg;have JW:=aa ho;have px:=aa (Below.app rk.o tJ.o (Qg _) rk.o.size hg);clear ho hg Ni ml));go_roundw
     case rel=>refine⟨j+1,by first|rfl|(rw[eu.o];rfl),bj.o,?_,px.o⟩;rw[Hfl.o];exact JW.o
     case measure=>first|exact al bj.o|(rw[eu.o];exact al bj.o)
    ·have hjk:j=k:=by have:=HR.o.1;omega
     have Ni:¬(j:Int)<k:=by omega
     have e1:ls.take j=ls:=Qj (by have:=Hn.o;omega);have fF:=aa HR.o.2;rw[e1] at fF;clear e1 HR hjk aJ hi;go_wp2_with fail;go_ret;exact⟨_,rfl,fF.o.1,fF.o.2⟩
def Uc:MK Int Int where
 mt:=136
 kt:=3
 vt:=3
 xz:=underlying136
 keyed:=Maps.int_keyed underlying3
 kv:= .int .i64
 kl:= .int .i64
 qY:=fun x=>(Lit.int .i64 x).wf=true
 ir:=fun x h=>Maps.keyOf_int_mk underlying3 h
 Bn:=fun x y h=>by simpa using h
 sB:=fun v l h=>by
  obtain⟨y,e1,e2,e3⟩:=Maps.keyOf_int_inv underlying3 h;exact⟨y,e3,e1⟩
 vv:= .int .i64
 Ix:=fun y=> .lit (.int .i64 y)
 R:=RI .i64
 MZ:=IU .i64
 Bm:=zy .i64
 zo:=zz .i64
 zero:=0
 hz:=fun w=>by kernel_rfl
def fx (seen:List Int):Int→Option Int:=fun x=>if x∈seen then some 1 else none
theorem ym (seen:List Int) (x:Int):eM (fx seen) x 1=fx (x::seen):=by
 funext z
 unfold eM fx;by_cases h:z=x
 ·subst h;simp
 ·rw[Xd h];simp[h]
theorem bE {α:Type} (l:List α) (k:Nat) (d:α) (h:k<l.length):l.getD k d=l[k]:=by rw[Qe,Qf h];rfl
theorem vC (w:Wo) (tb cb mb:Nat) (t:aE) (h:bf w tb cb mb t) (pv dv:Va) (ag au:List Int) (hp:Ns w w.heap.size .i64 pv ag) (hd:Ns w w.heap.size .i64 dv au)
  (dh:(ag.length:Int)=aR t.len) (oR:(au.length:Int)=aR ag.length) (hr:∀x∈ag++au,0≤x∧x≤65535):
  Calls prog 54 #[.pointer (some ⟨tb,0,none⟩),.agg #[pv,dv]] w fun e w' =>e= .returned (.bool (ke t ag au))∧Below w.heap.size w w' :=by
 obtain⟨Ap,cp,rfl,hp1,Tx⟩:=hp.form;obtain⟨Ad,cd,rfl,JO,TH⟩:=hd.form;have SC:ke t ag au=jE t [] (ag++au):=by unfold ke;rw[Xa dh,Xa oR];rfl
 rw[SC];obtain⟨n,hn⟩:=eX t.len;obtain⟨np,ei⟩:=eX ag.length;obtain⟨nd,im⟩:=eX au.length;obtain⟨W1,aW⟩:=eX (w.alloc (.cells #[.slice Ap ag.length cp,.slice Ad au.length cd] 36));obtain⟨xb,eD⟩:=eX w.heap.size;have X1:Af (aq W1 xb 36 [.slice Ap np cp,.slice Ad nd cd]):=by show aq _ _ _ _;rw[aW,eD,ei,im];exact ar _ [_,_] _
 have B1:Af (Below w.heap.size w W1):=by rw[aW];exact aF _ _
 have T1:=aa (h.on B1.o);have T0:=aa h;have ec:=h.ok;have HB:=aa (fun (W:Wo) (hW:Below W1.heap.size W1 W)=>cn W tb n _ _ (by rw[hn];exact(T1.o.on hW).x0))
 have Yd:=aa (HB.o W1 (Xj _ _));have r1:=ff n (by omega) (by have:=ec.n1;omega)
 have tp:=aa (fun W=>dY W n (by omega) (by have:=ec.n1;omega))
 have AJ:=aa (fun W=>dY W np (by omega) (by rw[ei,dh,←hn];omega))
 rw[←hn] at dh;rw[←dh,←ei] at tp;rw[←ei] at oR;rw[←oR,←im] at AJ;have Hp:=aa (show Ns W1 w.heap.size .i64 (.slice Ap np cp) ag by rw[ei];exact Ns.below hp B1.o)
 have Hd:=aa (show Ns W1 w.heap.size .i64 (.slice Ad nd cd) au by rw[im];exact Ns.below hd B1.o)
 have Hr:=aa hr;have Hn:=Nv hn ei im (by omega:np≤1700) (by have:=ff np (by omega) (by omega);omega:nd≤1700) (by have:=ec.n0;omega:1≤n)
 have jU:((n:Int)==0)=false:=Xc (by have:=Hn.o;omega)
 rw[←ei,←im] at aW⊢;have gB:=aa aW.symm;have xD:=aa eD.symm;clear SC hr dh oR hp hd hn ei im aW eD hp1 Tx JO TH ec h r1;go_enter func54,ntmps54;go_upto_region 1 with fail
 rw[gB.o,xD.o];go_upto_region 2 with(first
  |(go_at_call 98;(with_reducible refine Yd.o.mono ?_);rintro e W2 ⟨rfl,rfl⟩)
  |(go_at_call 36;(with_reducible refine(tp.o _).mono ?_);rintro e W2 ⟨rfl,rfl⟩))
 obtain⟨x0,x1⟩:=gh X1.o;have WX:Af (∀k,Calls prog 98 #[.pointer (some ⟨tb,0,none⟩)] (W1.drewN k) fun e DW =>e= .returned (.int .i64 n)∧∃m,DW =W1.drewN m):=fun k=>Calls.quiet_of_same ((HB.o (W1.drewN k) (below_drewN (Xj _ _) k)).mono fun _ _ h=>⟨h.1,h.2.symm⟩)
 have HQ2:Af (∀k,Calls prog 36 #[.int .i64 np] (W1.drewN k) fun e DW =>e= .returned (.int .i64 nd)∧∃m,DW =W1.drewN m):=fun k=>Calls.quiet_of_same ((AJ.o (W1.drewN k)).mono fun _ _ h=>⟨h.1,h.2.symm⟩)
 have e1:(((np:Nat):Int)!=np)=false:=by simp
 have e2:(((nd:Nat):Int)!=nd)=false:=by simp
 go_quiet (first
  |((go_at_call 98;with_reducible exact WX.o _))
  |((go_at_call 36;with_reducible exact HQ2.o _)))
 obtain⟨W2,cE⟩:=eX (W1.drewN nq);have B2:Af (Below w.heap.size w W2):=by rw[cE];exact below_drewN B1.o nq
 have X2:Af (aq W2 xb 36 [.slice Ap np cp,.slice Ad nd cd]):=by rw[cE];exact X1.o
 have Hp2:Af (Ns W2 w.heap.size .i64 (.slice Ap np cp) ag):=by rw[cE];exact Hp.o
 have Hd2:Af (Ns W2 w.heap.size .i64 (.slice Ad nd cd) au):=by rw[cE];exact Hd.o
 have HT:Af (∀W,Below w.heap.size w W→bf W tb cb mb t):=fun W hW=>T0.o.on hW
 rw[←cE];clear cE HB Yd tp AJ WX HQ2 e1 e2 x0 x1 jU X1 B1 T1 Hp Hd gB xD T0;have M3:Af (MG Uc (W2.alloc (.map #[] 0)) W2.heap.size (fun _=>none) 0):=MG.made W2;have jW:=aF W2 (.map #[] 0);obtain⟨W3,cD⟩:=eX (W2.alloc (.map #[] 0));obtain⟨m,hm⟩:=eX W2.heap.size;have hm3:Af (m<W3.heap.size∧w.heap.size≤m):=⟨by rw[cD,hm];simp,by rw[hm];exact B2.o.size⟩
 rw[←cD] at jW M3;rw[←hm] at M3;have B3:=aa (B2.o.trans (jW.mono B2.o.size));have X3:=aa (X2.o.on jW);have Hp3:=aa (Ns.below Hp2.o (jW.mono B2.o.size));have Hd3:=aa (Ns.below Hd2.o (jW.mono B2.o.size));have mT:=aa cD.symm;have Hm:=aa hm.symm;have xA:= @run_makeMap prog;clear jW cD hm Hp2 Hd2 X2;go_upto_region 5 with fail
 rw[mT.o,Hm.o];clear xA;obtain⟨x0,x1⟩:=gh X3.o;obtain⟨W4,j7,R4,sm⟩:=nW W3 [.slice Ap np cp,.slice Ad nd cd] 34;have HC:=aa (nQ W4 (.slice (some ⟨W3.heap.size,0,none⟩) 2 2) [(.slice Ap np cp,ag),(.slice Ad nd cd,au)]
  ⟨R4.rw.sl (n:=2) (sz:=1) rfl (Qg _) (by decide),fun p hp=>by
   have hle:=Qh B3.o.size sm.size;rcases QA.1 hp with rfl|hp
   ·exact(Ns.below Hp3.o (sm.mono B3.o.size)).more hle
   ·rw[Qx] at hp
    subst hp;exact(Ns.below Hd3.o (sm.mono B3.o.size)).more hle⟩ (by simp) (by unfold iL;have:=Hn.o;simp;omega))
 rw[j7] at HC;have e2:([(Value.slice Ap np cp,ag),(Value.slice Ad nd cd,au)].flatMap Prod.snd)=ag++au:=by simp
 rw[e2] at HC;have Hb4:=iJ (B3.o.trans (sm.mono B3.o.size)) (Qn hm3.o.1 sm.size) (M3.o.on sm);have Bh:=aa j7;clear sm R4 j7 e2;obtain⟨all,bm⟩:=eX (ag++au);rw[←bm] at HC Hr;have Fe:=aa bm;obtain⟨len,hlen⟩:=eX all.length;have lD:=dK hlen (by rw[hlen,bm,Qo];have:=Hn.o;omega:len≤3400)
 clear bm hlen;go_wp2_with(go_at_call 119;go_must(refine HC.o.mono ?_);rintro e W5 ⟨v5,rfl,o5,b5⟩;rw[←Bh.o] at o5 b5;have kr:=o5.ns.form;obtain⟨A5,c5,hv5,-,-⟩:=kr;rw[←lD.o.1] at hv5;subst hv5;have O5:=aa o5;have B5:=aa b5;clear o5 b5)
 have Hv5:Af (∀x,(Value.slice A5 len c5).ownBlock=some x→m<x):=fun x hx=>Qn Hb4.o.2.1 (Xr O5.o x hx).1
 have mU:=dK (Hb4.o.1.trans (B5.o.mono Hb4.o.1.size)) (Hb4.o.2.2.on B5.o);clear HC Hp3 Hd3 x0 x1 X3 M3
 go_loopw [38] (fun i wr=>∃(k:Nat) (seen:List Int),i= .int .i64 k∧Af (k≤len∧seen.length≤k∧MG Uc wr m (fx seen) seen.length∧aG (fun x=>x=m) W5 wr∧jE t [] all=jE t seen (all.drop k))) (fun i _=>len - (intOf i).toNat)
 case atStart=>exact⟨0,[],rfl,Qp _,Qg _,mU.o.2,aG.refl _ _,rfl⟩
 case round=>
  obtain⟨k,seen,rfl,HR⟩:=hrel;have MJ:=mU.o.1.trans (HR.o.2.2.2.1.below mU.o.1.size (fun x hx e=>by have:=hm3.o;omega))
  by_cases aJ:k<len
  ·have bQ:k<all.length:=by have:=lD.o;omega
   obtain⟨b,o,c',hv,-,-,hb,aH⟩:=O5.o.ns.cells (by omega);rw[←lD.o.1] at hv
   cases hv
   obtain⟨x,hx⟩:=eX (all.getD k 0);have pf:all[k]? =some x:=by rw[hx,Qe,Qf bQ];rfl
   have Wx:all.drop k=x::all.drop (k+1):=by rw[Zd bQ];congr 1;rw[hx,bE _ _ _ bQ]
   have wA:=Hr.o x (Qi pf);have hbm:¬b=m:=by have:=Hv5.o b rfl;omega
   have y0:wr.cell? ⟨b,o+k,none⟩=some (.int .i64 x):=(HR.o.2.2.2.1.cell (p:=⟨b,o+k,none⟩) hb hbm).trans (by rw[hx];exact aH k bQ)
   have fp:wrap64 ((k:Int)+1)=(k:Int)+1:=by unfold wrap64;have:=lD.o;omega
   have hi:(k:Int)<len:=by omega
   have ml:(0:Int)≤k:=by omega
   have bj:=aa aJ;have eu:=aa fp;have mY:Af ((Lit.int .i64 x).wf=true):=mo (by omega);have HM:=aa HR.o.2.2.1;have HCg:=aa HR.o.2.2.2.1;have HS:=iJ (by rw[←Wx];exact HR.o.2.2.2.2:jE t [] all=jE t seen (x::all.drop (k+1))) HR.o.2.1 (by have:=lD.o;omega:k≤3400)
   have Hbw:=aa MJ;have Hx0:=aa wA.1;clear hx pf Wx bQ aJ HR aH hb hbm MJ;by_cases gd:x=0
   ·subst gd
    clear wA;go_wp2_with fail;go_roundw
    case rel=>exact⟨k+1,seen,by first|rfl|(rw[eu.o];rfl),bj.o,XK HS.o.2.1,HM.o,HCg.o,by rw[HS.o.1];show(if(0:Int)=0 then _ else _)=_;rw[Xo rfl]⟩
    case measure=>first|exact al bj.o|(rw[eu.o];exact al bj.o)
   ·have Hxn:=aa gd
    have jr:=Xc gd;by_cases ph:x∈seen
    ·have hf:fx seen x=some 1:=by unfold fx;rw[Xo ph]
     have Hin:=aa ph;have q1:(Instr.lookup 136 (.map (some m)) (.int .i64 x) false).run prog wr= .ok (.int .i64 1) wr:=by
      have h1:=HM.o.at (x:=x) mY.o;rw[hf] at h1;exact h1
     clear gd wA ph;go_upto_region 10 with((refine wl_put Uc (f:=fx seen) (s:=seen.length) rfl HM.o ?_ x 2 mY.o rfl rfl rfl ?_);go_must((·have:=HS.o;omega);intro W7 Nd ti;have WZ:=aa Nd;have XZ:=aa ti;clear Nd ti))
     have q2:(Instr.lookup 136 (.map (some m)) (.int .i64 x) false).run prog W7= .ok (.int .i64 2) W7:=by
      have h1:=WZ.o.at (x:=x) mY.o;have e:eM (fx seen) x 2 x=some 2:=by simp[eM]
      rw[e] at h1;exact h1
     clear q1;go_wp2_with fail;go_ret;refine⟨?_,Hbw.o.grown XZ.o Hbw.o.size (fun j e=>by cases e;exact hm3.o.2)⟩
     have e:jE t seen (x::all.drop (k+1))=false:=by
      show(if x=0 then _ else _)=_;rw[Xd Hxn.o];have:seen.contains x=true:=by simpa using Hin.o
      rw[this];rfl
     exact jK (by rw[←Fe.o,HS.o.1,e])
    ·have hf:fx seen x=none:=by unfold fx;rw[Xd ph]
     have Hin:=aa ph;have q1:(Instr.lookup 136 (.map (some m)) (.int .i64 x) false).run prog wr= .ok (.int .i64 0) wr:=by
      have h1:=HM.o.at (x:=x) mY.o;rw[hf] at h1;exact h1
     have wE:Af ((seen.contains x)=false):=by show _=_;simpa using ph
     clear gd wA ph;go_upto_region 10 with((refine wl_put Uc (f:=fx seen) (s:=seen.length) rfl HM.o ?_ x 1 mY.o rfl rfl rfl ?_);go_must((·have:=HS.o;omega);intro W7 Nd ti;have WZ:=aa Nd;have XZ:=aa ti;clear Nd ti))
     have q2:(Instr.lookup 136 (.map (some m)) (.int .i64 x) false).run prog W7= .ok (.int .i64 1) W7:=by
      have h1:=WZ.o.at (x:=x) mY.o;have e:eM (fx seen) x 1 x=some 1:=by simp[eM]
      rw[e] at h1;exact h1
     have WC:Below w.heap.size w W7:=Hbw.o.grown XZ.o Hbw.o.size (fun j e=>by cases e;exact hm3.o.2)
     have hG:=qH W7 tb cb mb t (HT.o W7 WC) x;rw[Xo Hx0.o] at hG;obtain⟨g,hg⟩:=eX (t.get x.toNat);rw[←hg] at hG;have HG:=aa hG;have Hg:=aa hg;have Hb7:=aa WC;clear q1 WC hg hG;by_cases AV:g=0
     ·subst AV
      go_wp2_with(go_at_call 95;go_must(refine HG.o.mono ?_);rintro e W8 ⟨rfl,rfl⟩)
      go_ret;refine⟨?_,Hb7.o⟩;have e:jE t seen (x::all.drop (k+1))=false:=by
       show(if x=0 then _ else _)=_;rw[Xd Hxn.o,wE.o,←Hg.o];rfl
      exact jK (by rw[←Fe.o,HS.o.1,e])
     ·have SN:=Xc AV
      have Hg1:=aa SN;clear AV;go_wp2_with(go_at_call 95;go_must(refine HG.o.mono ?_);rintro e W8 ⟨rfl,rfl⟩)
      go_roundw
      case rel=>
       refine⟨k+1,x::seen,by first|rfl|(rw[eu.o];rfl),bj.o,Nat.succ_le_succ HS.o.2.1,?_,HCg.o.trans (aG.dH XZ.o (fun j _ e=>(Qr e).symm)),?_⟩
       ·have h1:=WZ.o
        rw[ym] at h1;have e:(fx seen x).isSome=false:=by
         unfold fx;rw[Xd Hin.o];rfl
        rw[e] at h1;exact h1
       ·rw[HS.o.1]
        show(if x=0 then _ else _)=_;rw[Xd Hxn.o,wE.o,←Hg.o,Hg1.o];rfl
      case measure=>first|exact al bj.o|(rw[eu.o];exact al bj.o)
  ·have hk:k=len:=by have:=HR.o.1;omega
   have hi:¬(k:Int)<len:=by omega
   have e1:all.drop k=[]:=Zu (by have:=lD.o;omega)
   have e2:jE t [] all=true:=by rw[HR.o.2.2.2.2,e1];rfl
   have He:=aa e2;have Hbw:=aa MJ;clear e1 e2 HR hk aJ MJ;go_wp2_with fail;go_ret;exact⟨jK (by rw[←Fe.o,He.o]),Hbw.o⟩
end
section
open Go.RowKit Go.Shelf Go.Lib
attribute [local go_sem] Oper.semAt_some
theorem DK (w:Wo) (q:Nat):Below w.heap.size w (w.drewN q):=below_drewN (Xj _ _) q
section
variable (w : Wo) (v : Va) (l : List Int)
theorem oF (B:Nat) (h:Ns w B .i64 v l) (hl:l.length≤1000000) (x:Int):
  Calls prog 124 #[v,.int .i64 x] w fun e w' =>e= .returned (.bool (l.contains x))∧w=w' :=by
 rcases XG l.length with h0|h0
 ·have:l=[]:=Zf h0;subst this;obtain⟨A,c,rfl,-,-⟩:=h.form;exact(Tryz.slices_Contains_int_empty A c x w).mono fun e w' ⟨h1,h2⟩=>⟨h1,h2.symm⟩
 ·obtain⟨b,o,c,rfl,h1,h2,h3,h4⟩:=h.cells h0;refine(Tryz.slices_Contains_int b o l.length c l x w (Qg _) (by omega) h4).mono fun e w' ⟨e1,e2⟩=>⟨?_,e2.symm⟩
  rw[e1,XU]
theorem Si (B:Nat) (h:Ns w B .i64 v l) (hl:l.length≤1000000) (x:Int) (hs:l.Pairwise (·≤·)):
  Calls prog 181 #[v,.int .i64 x] w fun e w' =>e= .returned (.tuple #[.int .i64 (l.countP (·<x):Nat),.bool (l.contains x)])∧∃q,w' =w.drewN q:=by
 rcases XG l.length with h0|h0
 ·have:l=[]:=Zf h0;subst this;obtain⟨A,c,rfl,-,-⟩:=h.form;exact(Tryz.slices_BinarySearch_int_empty A c x w).mono fun e w' ⟨h1,h2⟩=>⟨h1,0,h2⟩
 ·obtain⟨b,o,c,rfl,h1,h2,h3,h4⟩:=h.cells h0;refine(Tryz.slices_BinarySearch_int b o l.length c l x w (Qg _) (by omega) h4 (by rw[XU];exact hs)).mono fun e w' ⟨e1,e2⟩=>⟨?_,e2⟩
  rw[e1,XU]
theorem Fl (B:Nat) (h:Ns w B .i64 v l) (hl:l.length≤1000000):
  Calls prog 99 #[v] w fun e w' =>∃v',e= .returned v'∧aB w' w.heap.size 3 .i64 v' l∧Below w.heap.size w w' :=by
 rcases XG l.length with h0|h0
 ·have:l=[]:=Zf h0;subst this;obtain⟨hl0,A,c,rfl,hc,hm,hz,hr⟩:=h;cases A with
  |none=>
   have:=hz rfl;subst this;refine(Tryz.slices_Clone_int_nil 0 0 w).mono fun e w' ⟨e1,e2⟩=> ?_
   exact⟨_,e1,by rw[e2];exact cQ _ _ _ _,by rw[e2];exact Xj _ _⟩
  |some a=>
   refine(Tryz.slices_Clone_int_zero a c w).mono fun e w' ⟨v',e1,e2,e3,e4⟩=> ?_
   exact⟨v',e1,e2,e4⟩
 ·obtain⟨b,o,c,rfl,h1,h2,h3,h4⟩:=h.cells h0;refine(Tryz.slices_Clone_int b o l.length c l w (Qg _) (by omega) h4).mono fun e w' ⟨v',e1,e2,e3,e4⟩=>⟨v',e1,?_,e4⟩
  rw[XU] at e2;exact e2
theorem amV (B:Nat) (h:Ns w B .i64 v l) (h0:0<l.length) (hl:l.length≤1000000):
  Calls prog 144 #[v] w fun e w' =>e= .returned (.int .i64 (Lib.maxOf l))∧w=w' :=by
 obtain⟨b,o,c,rfl,h1,h2,h3,h4⟩:=h.cells h0;refine(Tryz.slices_Max_int b o l.length c l w h0 (Qg _) (by omega) h4).mono fun e w' ⟨e1,e2⟩=>⟨?_,e2.symm⟩
 rw[e1,XU]
end
theorem ach (w:Wo) (v u:Va) (l m:List Int) (B B' :Nat) (h:Ns w B .i64 v l) (k:Ns w B' .i64 u m) (hl:l.length≤1000000) (hm:m.length≤1000000):
  Calls prog 221 #[v,u] w fun e w' =>e= .returned (.bool (l==m))∧∃q,w' =w.drewN q:=by
 obtain⟨A,c,hv,-,-⟩:=h.form;obtain⟨A2,c2,AO,-,-⟩:=k.form;by_cases bT:l.length=m.length
 ·rcases XG l.length with h0|h0
  ·have e1:l=[]:=Zf h0;have e2:m=[]:=Zf (by omega);subst e1 e2;rw[hv,AO];exact(Tryz.slices_Equal_int_empty A A2 c 0 c2 w (by decide)).mono fun e w' ⟨h1,h2⟩=>⟨h1,0,h2⟩
  ·obtain⟨b,o,c,rfl,h1,h2,h3,h4⟩:=h.cells h0;obtain⟨b',o',c',rfl,k1,k2,k3,k4⟩:=k.cells (by omega);refine(Tryz.slices_Equal_int b o l.length c b' o' m.length c' l m w (Qg _) (Qg _) (by omega) (by omega) h4 k4).mono fun e w' ⟨e1,e2⟩=>⟨?_,e2⟩
   rw[e1,XU,XU]
 ·rw[hv,AO];refine(Tryz.slices_Equal_int_lens A A2 l.length c m.length c2 w bT).mono fun e w' ⟨h1,h2⟩=>⟨?_,0,h2⟩
  have:(l==m)=false:=by rw[beq_eq_false_iff_ne];intro e;exact bT (by rw[e])
  rw[this,h1]
end
end Go.Proofs.YthgdhacopamklaaGreat

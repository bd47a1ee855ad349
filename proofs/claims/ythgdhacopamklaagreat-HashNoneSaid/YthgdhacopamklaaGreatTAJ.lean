/- What HashNone asks, part 10 of 41: parts of the walks and laws, each true as it stands. -/
import Derived.Test.YthgdhacopamklaaGreatTAI
set_option maxHeartbeats 16000000
set_option maxRecDepth 100000
set_option linter.unusedVariables false
set_option linter.unusedSimpArgs false
namespace Go.Proofs.YthgdhacopamklaaGreat
open Go.Proofs.Tryz
section
open Go.RowKit
theorem YK (bs:List Int) (i:Nat) (h:i<bs.length):cK bs i 1=bs.getD i 0:=by
 unfold cK;have e:(bs.drop i).take 1=[bs[i]]:=by rw[Zd h];rfl
 rw[e,Qe,Qf h];simp[j4]
theorem yB {bs:List Int} (hb:∀x∈bs,aI x) (p:Nat):0≤cK bs p 1∧cK bs p 1<256:=by
 have h1:=lR ((bs.drop p).take 1) (fun x hx=>hb x (Q6 (Za hx)));refine⟨h1.1,Int.lt_of_lt_of_le h1.2 ?_⟩;have h2:((bs.drop p).take 1).length≤1:=by rw[Qu];omega
 generalize ((bs.drop p).take 1).length=n at*;rcases(show n=0∨n=1 by omega) with rfl|rfl<;>decide
def ez (body:List Int) (k:Nat):List aD:=(List.range k).map (xI body)
theorem GJ (body:List Int) (k:Nat):ez body (k+1)=ez body k++[xI body k]:=by simp[ez,List.range_succ]
theorem LU (body:List Int) (k:Nat):(ez body k).length=k:=by simp[ez]
theorem aG.rE {w w' :Wo} {P:Nat} (h:aG (fun x=>x=P) w w'):w.grownBy w' (some P):=⟨h.os,h.tape,h.output,h.size,fun k hk bT=>h.block k hk (fun e=>bT (by rw[e]))⟩
theorem Fg (w:Wo) (cs:List Va) (t:TypeId) (sz:Nat) (hs:cs.length=sz):Sl (w.alloc (.cells cs.toArray t)) (w.heap.size+1) sz (.slice (some ⟨w.heap.size,0,none⟩) 1 1) 1 cs:=
 kT (by omega) (Qg _) (by unfold maxLen;omega) (Jc w cs t)
theorem qQ (x y:Int):∀u∈([.int .u64 x,.int .u32 y]:List Va),u.oneCell' =true:=by
 intro u hu;simp only[QA,QV,or_false] at hu;rcases hu with rfl|rfl<;>rfl
theorem lx (W:Wo) (b j:Nat) (v:Va):W.grownBy (W.setCell ⟨b,j,none⟩ v) (some b):=
 ⟨rfl,rfl,rfl,by simp,fun k _ bT=>Xl _ _ _ _ (fun e=>bT (by rw[e]))⟩
theorem yq {k L:Nat} (h:k<L):L - (intOf (.int .u64 ((k:Int)+1))).toNat<L - (intOf (.int .u64 (k:Int))).toNat:=by simp[intOf];omega
theorem RV (body:List Int) (hb:∀x∈body,aI x) (i:Nat):eR (xI body i):=by
 obtain⟨x0,x1⟩:=cW hb (6+12*i) 8;obtain⟨y0,y1⟩:=cW hb (6+12*i+8) 4;refine⟨⟨x0,?_⟩,⟨y0,?_⟩⟩
 ·show cK body (6+12*i) 8<_;simpa using x1
 ·show cK body (6+12*i+8) 4<_;simpa using y1
theorem VM {p body:List Int} (ho:dy p=some (3,body)) (hl:body.length=123):mJ p=if cK body 1 1≤9 then(if bC ⟨cK body 0 1,cK body 2 4,ez body (cK body 1 1).toNat⟩=true∧(body.drop (6+12*(cK body 1 1).toNat)).all (·==0)=true then some ⟨cK body 0 1,cK body 2 4,ez body (cK body 1 1).toNat⟩ else none) else none:=by
 unfold mJ;rw[ho];simp only;rw[YK body 0 (by omega),YK body 1 (by omega)];by_cases h:body.getD 1 0≤9
 ·rw[Xo ⟨trivial,h⟩,Xo h];rfl
 ·rw[Xd (fun e=>h e.2),Xd h]
theorem Mc (w:Wo) (v:Va) (p:List Int) (h:Bs w w.heap.size v p) (body:List Int) (ho:dy p=some (3,body)):
  Calls prog 33 #[v] w (ShR w p):=by
 obtain⟨A,c,rfl,-,-⟩:=h.1.form;obtain⟨W0,aY⟩:=eX (w.alloc (.cells #[.int .u8 0,.int .u32 0,.slice none 0 0] 92));have R0:Af (aq W0 w.heap.size 92 [.int .u8 0,.int .u32 0,.slice none 0 0]):=by show _=_;rw[aY];exact ar w _ _
 have B0:Af (Below w.heap.size w W0):=by rw[aY];exact aF _ _
 have jr:Bs W0 W0.heap.size (.slice A p.length c) p:=⟨(h.1.below B0.o).more B0.o.size,h.2⟩;have HO:=aa (nH jr ho);obtain⟨fg,-,bO⟩:=jO ho h.2;have Hb:=dK fg bO;obtain⟨m,hm⟩:=eX p.length;rw[←hm] at HO⊢;have HW:=aa aY.symm;have Hop:=aa ho;clear h aY hm jr ho fg bO;go_enter func33,ntmps33;go_upto_region 1 with fail
 rw[HW.o];go_upto_region 4 with(go_at_call 90;go_must(refine HO.o.mono ?_);rintro e W1 ⟨A1,c1,rfl,o1,s1,b1⟩;have S3:=aa s1;have B1:=aa b1;clear o1 s1 b1)
 obtain⟨P,hP⟩:=eX W1.heap.size;obtain⟨W2,cE,-,sq⟩:=nW W1 [.slice A1 123 c1,.int .i64 0] 180;have K2:Af (aq W2 P 180 (uy (.slice A1 123 c1) ((0:Nat):Int))):=by show _=_;rw[cE,hP];exact ar W1 _ _
 have B2:=aa sq;have HP:Af (W1.heap.size≤P):=by show _≤_;rw[hP];exact Qg _
 have Tb:=aa cE.symm;have HPq:=aa hP.symm;have HG:Af (∀(W:Wo) (q s:Nat) (sI:Int),sI=(s:Int)→aq W P 180 (uy (.slice A1 123 c1) (q:Int))→Below W1.heap.size W1 W→(1≤s∧s≤8)→q+s≤123→Calls prog 91 #[.pointer (some ⟨P,0,none⟩),.int .i64 sI] W fun e w' =>e= .returned (.int .u64 (cK body q s))∧aq w' P 180 (uy (.slice A1 123 c1) ((q+s:Nat):Int))∧aG (fun x=>x=P) W w'∧w'.heap.size=W.heap.size):=
  fun W q s sI hI hk MJ hs hq=>by rw[hI];exact Vm W P W1.heap.size A1 123 c1 q s body hk ⟨S3.o.1.below MJ,S3.o.2⟩ hs (by have:=Hb.o.1;omega) (by have:=Hb.o.1;omega)
 clear cE hP sq;go_upto_region 6 with fail
 rw[Tb.o,HPq.o];have HG1:=aa (HG.o W2 0 1 1 rfl K2.o B2.o (by decide) (by decide));obtain⟨d0,d1⟩:=yB Hb.o.2 0;obtain⟨m0,m1⟩:=yB Hb.o.2 1;obtain⟨n0,n1⟩:=cW Hb.o.2 2 4;obtain⟨d,hd⟩:=eX (cK body 0 1);obtain⟨mi,hmi⟩:=eX (cK body 1 1);obtain⟨nx,fu⟩:=eX (cK body 2 4);have Hd:=aa hd;have Hmi:=aa hmi;have NI:=aa fu;rw[←hd] at HG1 d0 d1;rw[←hmi] at m0 m1;rw[←fu] at n0 n1;have hwd:IntKind.u8.wrap d=d:=by simp[IntKind.wrap,IntKind.signed,IntKind.bits];omega
 have Tt:IntKind.u32.wrap nx=nx:=by simp at n1;simp[IntKind.wrap,IntKind.signed,IntKind.bits];omega
 have HN:Af (aI d∧aI mi∧bX nx):=⟨⟨d0,d1⟩,⟨m0,m1⟩,⟨n0,by simpa using n1⟩⟩;clear hd hmi fu d0 d1 n0 n1;go_upto_region 7 with(go_at_call 91;go_must(refine HG1.o.mono ?_);rintro e W3 ⟨rfl,k3,c3,s3⟩;have K3:=aa k3;have B3:=aa (B2.o.trans (c3.below B2.o.size (fun x hx e=>by have:=HP.o;omega)));clear k3 c3 s3)
 obtain⟨S9,hS9⟩:=eX W3.heap.size;obtain⟨W4,j7,-,sm⟩:=nW W3 [.int .u8 d,.int .u32 0,.slice none 0 0] 92;have T4:Af (aq W4 S9 92 [.int .u8 d,.int .u32 0,.slice none 0 0]):=by show _=_;rw[j7,hS9];exact ar W3 _ _
 have K4:=aa (K3.o.on sm);have B4:=aa (B3.o.trans (sm.mono B3.o.size));have HS:Af (W1.heap.size≤S9∧S9≠P):=⟨by rw[hS9];exact B3.o.size,by rw[hS9];have:=K3.o.lt;omega⟩;rw[←j7,←hS9];clear j7 sm hS9 HG1;have wM:=aa (HG.o W4 1 1 1 rfl K4.o B4.o (by decide) (by decide));rw[←Hmi.o] at wM;go_upto_region 8 with(go_at_call 91;go_must(refine wM.o.mono ?_);rintro e W5 ⟨rfl,k5,c5,s5⟩;have K5:=aa k5;have T5:=aa (T4.o.aL c5 HS.o.2);have B5:=aa (B4.o.trans (c5.below B4.o.size (fun x hx e=>by have:=HP.o;omega)));clear k5 c5 s5)
 have HG3:=aa (HG.o W5 2 4 4 rfl K5.o B5.o (by decide) (by decide));rw[←NI.o] at HG3;clear wM;go_upto_region 9 with(go_at_call 91;go_must(refine HG3.o.mono ?_);rintro e W6 ⟨rfl,k6,c6,s6⟩;have K6:=aa k6;have T6:=aa (T5.o.aL c6 HS.o.2);have B6:=aa (B5.o.trans (c6.below B5.o.size (fun x hx e=>by have:=HP.o;omega)));have t1:=T6.o.cell (j:=1) rfl;have tf:=T6.o.free 1;clear k6 c6 s6)
 have T7:Af (aq (W6.setCell ⟨S9,1,none⟩ (.int .u32 nx)) S9 92 [.int .u8 d,.int .u32 nx,.slice none 0 0]):=T6.o.set 1 _;have K7:Af (aq (W6.setCell ⟨S9,1,none⟩ (.int .u32 nx)) P 180 (uy (.slice A1 123 c1) ((6:Nat):Int))):=K6.o.az (Xm HS.o.2) _;have B7:Af (Below W1.heap.size W1 (W6.setCell ⟨S9,1,none⟩ (.int .u32 nx))):=B6.o.setCell HS.o.1 _;clear t1 tf HG3 hwd Tt K6 T6 B6 K5 T5 B5 K4 T4 B4 K3 B3;generalize W6.setCell ⟨S9,1,none⟩ (.int .u32 nx)=W7 at*;have HdS:=aa (VM Hop.o Hb.o.1);rw[←Hd.o,←Hmi.o,←NI.o] at HdS;by_cases h9:9<mi
 ·have hd:Af (mJ p=none):=by show _=_;rw[HdS.o,Xd (by omega)]
  have S1:=aa ((R0.o.on B1.o).on B7.o);obtain⟨y0,y1,y2⟩:=ra S1.o;have f1:=S1.o.free;go_wp2_with fail;refine bodyPost_ret (cG rfl rfl (gU (S1.o.JY (.int .u8 0) (.int .u32 0) (.slice none 0 0)))) rfl ?_;exact⟨iG (B0.o.trans ((B1.o.trans (B7.o.mono B1.o.size)).mono B0.o.size)) (Qg _),.inl ⟨hd.o,rfl⟩⟩
 ·obtain⟨M,hM⟩:∃M:Nat,M=mi.toNat:=⟨_,rfl⟩;have hmM:mi=(M:Int):=by omega
  subst hmM;have HM:Af (M≤9):=by show M≤9;omega
  have hdS:Af (mJ p=if bC ⟨d,nx,ez body M⟩=true∧(body.drop (6+12*M)).all (·==0)=true then some ⟨d,nx,ez body M⟩ else none):=by show _=_;rw[HdS.o,Xo (by omega),←hM]
  clear hM m0 m1;go_wp2_with fail;go_loopw [43] (fun i wr=>∃k:Nat,k≤M∧i= .int .u64 k∧Af ((∃u,aq wr S9 92 [.int .u8 d,.int .u32 nx,u]∧cV wr W1.heap.size u (ez body k))∧aq wr P 180 (uy (.slice A1 123 c1) ((6+12*k:Nat):Int))∧Below W1.heap.size W1 wr)) (fun i _=>M - (intOf i).toNat)
  case atStart=>exact⟨0,Qp _,rfl,⟨_,T7.o,World.ownsRow_nil _ _ _ _⟩,K7.o,B7.o⟩
  case round=>
   obtain⟨k,hk,rfl,hK⟩:=hrel;obtain⟨⟨u,ht,hu⟩,hp,hb⟩:=hK.o;have T8:=aa ht;have U8:=aa hu;have K8:=aa hp;have B8:=aa hb;clear hK ht hu hp hb;obtain⟨Au,nu,cu,huv⟩:∃A n c,u= .slice A n c:=by rcases U8.o.2 with⟨h1,_⟩|⟨g,cap,cur,h1,_⟩<;>exact⟨_,_,_,h1⟩
   subst huv;by_cases aJ:k<M
   ·have hkL:(k:Int)<M:=by omega
    have SK:(0:Int)≤k:=by omega
    have bj:=aa aJ;have HGa:=aa (HG.o wr.drew (6+12*k) 8 8 rfl K8.o B8.o.drew (by decide) (by have:=HM.o;omega));obtain⟨x0,x1⟩:=cW Hb.o.2 (6+12*k) 8;obtain⟨y0,y1⟩:=cW Hb.o.2 (6+12*k+8) 4;obtain⟨x,hx⟩:=eX (cK body (6+12*k) 8);obtain⟨y,hy⟩:=eX (cK body (6+12*k+8) 4);have Hxy:=dK (by unfold xI;rw[←hx,←hy]:xI body k=⟨x,y⟩) hy;rw[←hx] at HGa x0 x1;rw[←hy] at y0 y1;have hwy:IntKind.u32.wrap y=y:=by simp at y1;simp[IntKind.wrap,IntKind.signed,IntKind.bits];omega
    have tH:=aa (GJ body k);have Hl:Af ((ez body k).length≤9):=by show _≤_;rw[LU];have:=HM.o;omega
    have t0:=T8.o.cell (j:=2) rfl;have HnP:=aa (aq.not_row K8.o (by decide) U8.o);have Ed:IntKind.u64.wrap ((k:Int)+1)=(k:Int)+1:=by have:=HM.o;simp[IntKind.wrap,IntKind.signed,IntKind.bits];omega
    clear aJ hk hx hy x0 x1 y0 y1;go_wp2_with fail;go_region_law
     (first
      |(go_simp;(go_at_call 91);(with_reducible refine HGa.o.mono ?_);rintro e W2 ⟨rfl,k2,c2,s2⟩;have C2:Af (aG (fun x=>x=P) wr W2):=⟨c2.os,c2.tape,c2.output,c2.size,c2.block⟩;have B9:=aa (B8.o.trans (C2.o.below B8.o.size (fun x hx e=>by have:=HP.o;omega)));have T9:=aa (T8.o.aL C2.o HS.o.2);have t9:=T9.o.cell (j:=2) rfl;have HGb:=HG.o W2 _ 4 4 rfl k2 B9.o (by decide) (by have:=HM.o;have:=bj.o;omega);rw[←Hxy.o.2] at HGb;have HGc:=aa HGb;clear HGb k2 c2 s2)
      |(go_simp;(go_at_call 91);(with_reducible refine HGc.o.mono ?_);rintro e W3 ⟨rfl,k3,c3,s3⟩;have WQ:=aa k3;have oU:=aa (B9.o.trans (c3.below B9.o.size (fun x hx e=>by have:=HP.o;omega)));have T10:=aa (T9.o.aL c3 HS.o.2);have t10:=T10.o.cell (j:=2) rfl;have avE:=(T10.o.alloc (.cells #[.int .u64 x,.int .u32 y] 68)).cell (j:=2) rfl;have U10:=World.ownsRow.kept (World.ownsRow.kept U8.o C2.o.rE (.inr HnP.o)) c3.rE (.inr HnP.o);have UA:=aa (aS U10 (aF W3 (.cells #[.int .u64 x,.int .u32 y] 68)));have XA:=aa (Fg W3 [.int .u64 x,.int .u32 y] 68 2 rfl);clear U10 k3 c3 s3)
      |((with_reducible refine nX (os:= .tmp 46) (ox:= .tmp 53) W1.heap.size 90 68 (.agg #[.int .u64 0,.int .u32 0]) 2 16 underlying90 IL ?_ ?_ (.slice Au nu cu) (ez body k).length ((ez body k).flatMap dC) UA.o (.slice (some ⟨W3.heap.size,0,none⟩) 1 1) 1 [.int .u64 x,.int .u32 y] XA.o ?_ ?_ ?_ ?_ ?_ ?_ ?_);go_must((·rfl);(·decide);(·exact qQ x y);(·have:=Hl.o;unfold maxLen;omega);(·have:=Hl.o;omega);(·exact Qh oU.o.size (by simp));(·rfl);(·rfl);intro v4 w4 ua og;obtain⟨g4,Og,rfl⟩:=ownsRow_succ ua;have U4:=aa ua;have G4:=aa og;have T4:=aa ((T10.o.alloc (.cells #[.int .u64 x,.int .u32 y] 68)).grown og (Xm (aq.not_row (T10.o.alloc (.cells #[.int .u64 x,.int .u32 y] 68)) (by decide) UA.o)));have t4:=T4.o.cell (j:=2) rfl;have tf4:=T4.o.free 2;clear ua og)))
    all_goals
     have T11:=aa (T4.o.set 2 (.slice (some ⟨g4,0,none⟩) ((ez body k).length+1) Og));go_wp2_with fail;go_roundw
     case rel=>
      have anm:=(oU.o.trans ((aF W3 (.cells #[.int .u64 x,.int .u32 y] 68)).mono oU.o.size)).grown G4.o (Qh oU.o.size (by simp)) (fun j e=>(Xr UA.o j e).1);refine⟨k+1,bj.o,by go_num,⟨_,T11.o,?_⟩,?_,anm.setCell HS.o.1 _⟩
      ·have hu:=World.ownsRow.kept U4.o (lx w4 S9 2 (.slice (some ⟨g4,0,none⟩) ((ez body k).length+1) Og)) (.inr (aq.not_row T4.o (by decide) U4.o));unfold cV;rw[tH.o,Hxy.o.1,Qo,QP];exact hu
      ·have hk4:=((WQ.o.alloc (.cells #[.int .u64 x,.int .u32 y] 68)).grown G4.o (Xm HnP.o)).az (p:=⟨S9,2,none⟩) (Xm HS.o.2) (.slice (some ⟨g4,0,none⟩) ((ez body k).length+1) Og);rw[show 6+12*(k+1)=6+12*k+8+4 by omega];exact hk4
     case measure=>first|exact yq bj.o|(rw[Ed];exact yq bj.o)
   ·obtain rfl:k=M:=by omega
    have eE:Es wr wr.heap.size (.slice Au nu cu) (ez body k):=⟨Sl.bU U8.o,fun e he=>by obtain⟨j,_,rfl⟩:=QU.1 he;exact RV body Hb.o.2 j⟩
    have HR:=aa (rO wr ⟨d,nx,ez body k⟩ (.slice Au nu cu) eE HN.o.1 HN.o.2.2);have Hes:=aa eE.2;obtain⟨rb,ft⟩:=eX (bC ⟨d,nx,ez body k⟩);have wD:=aa ft;rw[←ft] at HR;simp only at HR;obtain⟨t0,t1,t2⟩:=ra T8.o;have NH:=aa (B0.o.trans ((B1.o.trans (B8.o.mono B1.o.size)).mono B0.o.size));have R8:=aa ((R0.o.on B1.o).on B8.o);have anQ:=aa (Qn R0.o.lt B1.o.size);clear aJ hk eE ft;cases rb with
    |false=>
     have hd:Af (mJ p=none):=by show _=_;rw[hdS.o,←wD.o,Xd (by simp)]
     go_upto_region 16 with(go_at_call 92;go_must(refine HR.o.mono ?_);rintro e W9 ⟨rfl,b9⟩;have B9:=aa b9;clear b9)
     have S1:=aa (R8.o.on B9.o);obtain⟨y0,y1,y2⟩:=ra S1.o;have f1:=S1.o.free;clear t0 t1 t2;go_wp2_with fail;refine bodyPost_ret (cG rfl rfl (gU (S1.o.JY (.int .u8 0) (.int .u32 0) (.slice none 0 0)))) rfl ?_;exact⟨iG (NH.o.trans (B9.o.mono NH.o.size)) (Qg _),.inl ⟨hd.o,rfl⟩⟩
    |true=>
     obtain⟨b,o,c',hv,-,-,hr⟩:=S3.o.1.row (by have:=Hb.o.1;omega);injection hv with e1 e2 e3
     subst e1;subst e3;clear e2;obtain⟨A9,c9,Ea,hc9,hm9⟩:=S3.o.1.form;injection Ea with e1 e2 e3
     subst e3;clear e1 e2;have YH:123≤c1:=by have:=Hb.o.1;omega
     obtain⟨q,hq⟩:=eX (6+12*k);have hq9:q≤114:=by have:=HM.o;omega
     have hqc:q<c1:=by omega
     have hqi:(q:Int)≤123:=by omega
     have avL:(0:Int)≤q:=by omega
     have HK:Af (aq wr P 180 (uy (.slice (some ⟨b,o,none⟩) 123 c1) (q:Int))):=by show aq _ _ _ _;rw[hq];exact K8.o
     have Wx:((body.drop q).length=123 - q):=by rw[Zt,Hb.o.1]
     have EL:Af (∀W,Below wr.heap.size wr W→Calls prog 93 #[.slice (some ⟨b,o+q,none⟩) (123 - q) (c1 - q),.func (.func 94) #[] #[]] W fun e w' =>e= .returned (.bool (!((body.drop q).all (·==0))))∧W=w'):=fun W hW=>by
      refine LD W W.heap.size _ (body.drop q) ?_ (by rw[Wx];omega) (by rw[Wx];omega);refine⟨?_,fun x hx=>Hb.o.2 x (Q6 hx)⟩;rw[Wx];refine kT (by rw[Qq,Wx];omega) (by omega) (by unfold maxLen at hm9⊢;omega) ⟨?_,fun j u hu=> ?_⟩
      ·exact Qn hr.1 (Qh B8.o.size hW.size)
      ·rw[hW.cell (Qn hr.1 B8.o.size),B8.o.cell hr.1,XB];rw[List.map_drop,Zb] at hu;exact hr.2 (q+j) u hu
     have aba:Af (mJ p=if(body.drop q).all (·==0)=true then some ⟨d,nx,ez body k⟩ else none):=by show _=_;rw[hdS.o,←wD.o,hq];simp
     obtain⟨nz,hnz⟩:=eX ((body.drop q).all (·==0));rw[←hnz] at EL aba;clear hr hc9 hm9 hq Wx hnz YH;cases nz with
     |false=>
      have hd:Af (mJ p=none):=by show _=_;rw[aba.o,Xd (by simp)]
      go_upto_region 16 with(first
       |(go_at_call 92;go_must(refine HR.o.mono ?_);rintro e W9 ⟨rfl,b9⟩;have B9:=aa b9;have k1:=(HK.o.on b9).cell (j:=1) rfl;clear b9)
       |(go_at_call 93;go_must((with_reducible refine(EL.o _ B9.o).mono ?_));rintro e uh ⟨rfl,rfl⟩))
      have S1:=aa (R8.o.on B9.o);obtain⟨y0,y1,y2⟩:=ra S1.o;have f1:=S1.o.free;clear t0 t1 t2 k1;go_wp2_with fail;refine bodyPost_ret (cG rfl rfl (gU (S1.o.JY (.int .u8 0) (.int .u32 0) (.slice none 0 0)))) rfl ?_;exact⟨iG (NH.o.trans (B9.o.mono NH.o.size)) (Qg _),.inl ⟨hd.o,rfl⟩⟩
     |true=>
      have hd:Af (mJ p=some ⟨d,nx,ez body k⟩):=by show _=_;rw[aba.o,Xo rfl]
      go_upto_region 17 with(first
       |(go_at_call 92;go_must(refine HR.o.mono ?_);rintro e W9 ⟨rfl,b9⟩;have B9:=aa b9;have k1:=(HK.o.on b9).cell (j:=1) rfl;clear b9)
       |(go_at_call 93;go_must((with_reducible refine(EL.o _ B9.o).mono ?_));rintro e uh ⟨rfl,rfl⟩))
      have S1:=aa (R8.o.on B9.o);have T9:=aa (T8.o.on B9.o);have U9:=aa (aS U8.o B9.o);obtain⟨y0,y1,y2⟩:=ra S1.o;have f1:=S1.o.free;clear t0 t1 t2 k1;obtain⟨t0,t1,t2⟩:=ra T9.o;go_wp2_with fail;refine bodyPost_ret (cG rfl rfl (gU (S1.o.JY (.int .u8 d) (.int .u32 nx) (.slice Au nu cu)))) rfl ?_;refine⟨iG (NH.o.trans (B9.o.mono NH.o.size)) (Qg _),.inr ⟨_,.slice Au nu cu,hd.o,rfl,?_,Hes.o,HN.o.1,HN.o.2.2⟩⟩;have bT:∀(W:Wo) (cs:List Va),aq W w.heap.size 92 cs→W.ownsRow W1.heap.size 68 2 (.slice Au nu cu) (ez body k).length ((ez body k).flatMap dC)→∀(j:Nat) (u:Va),(W.setCell ⟨w.heap.size,j,none⟩ u).ownsRow W1.heap.size 68 2 (.slice Au nu cu) (ez body k).length ((ez body k).flatMap dC):=
       fun W cs hb hu j u=>World.ownsRow.kept hu (lx W _ j u) (.inr (aq.not_row hb (by decide) hu))
      have h1:=bT _ _ S1.o U9.o 0 (.int .u8 d);have h2:=bT _ _ (S1.o.set 0 (.int .u8 d)) h1 1 (.int .u32 nx);have h3:=bT _ _ ((S1.o.set 0 (.int .u8 d)).set 1 (.int .u32 nx)) h2 2 (.slice Au nu cu);refine⟨h3.1,?_⟩;rcases h3.2 with h4|⟨g,cap,cur,h4,h5,h6⟩
      ·exact .inl h4
      ·exact .inr ⟨g,cap,cur,h4,by have:=anQ.o;omega,h6⟩
theorem Sb (w:Wo) (v:Va) (p:List Int) (h:Bs w w.heap.size v p):Calls prog 33 #[v] w (ShR w p):=by
 cases ho:dy p with
 |none=>exact CW w v p h (.inl ho)
 |some q=>
  obtain⟨k',body⟩:=q;by_cases h1:k' =3
  ·subst h1;exact Mc w v p h body ho
  ·exact CW w v p h (.inr ⟨k',body,ho,h1⟩)
end
section
open Go.RowKit Go.Shelf
attribute [local go_sem] Oper.semAt_some
variable {w : Wo} {b : Nat} {t : TypeId} {cs : List Va}
def OY (w:Wo) (p:List Int) (e:Ending) (w' :Wo):Prop:=
 Below w.heap.size w w'∧((kA p=none∧e= .returned (.tuple #[.agg (aP aV).toArray,.int .i64 60]))∨∃s,kA p=some s∧bM s∧e= .returned (.tuple #[.agg (aP s).toArray,.int .i64 0]))
theorem Cb:bM aV:=by
 refine⟨rfl,rfl,⟨by decide,by decide⟩,⟨by decide,by decide⟩,fun x hx=> ?_,fun x hx=> ?_⟩<;>rw[QJ hx]<;>exact⟨by decide,by decide⟩
theorem dX {n:Nat} (h:aq w b t cs) (hn:n≤cs.length):w.there b 0 n:=fun j hj=>by
 obtain⟨v,hv⟩:∃v,cs[j]? =some v:=⟨_,Qf (by omega)⟩;rw[QR];exact⟨by rw[h.cell hv];rfl,h.free j⟩
theorem aq.fill {vs:List Va} (h:aq w b t cs) (hl:vs.length=cs.length):aq (w.setCells b 0 vs) b t vs:=by
 have h1:=mh vs 0 w cs h (by omega);rw[Zq,QZ,Zu (by omega),Zi] at h1;exact h1
theorem cN {S:Nat→Prop} {a:Wo} (hb:S b):∀(vs:List Va) (o:Nat) (w:Wo),aG S a w→aG S a (w.setCells b o vs)
 |[],_,_,h=>h
 |v::r,o,_,h=>cN hb r (o+1) _ (h.setCell (p:=⟨b,o,none⟩) (fun _=>hb) v)
theorem eZ (hl:cs.length=18) (h:∀j v,cs[j]? =some v→w.cell? ⟨b,j,none⟩=some v):(loadVar 41 ⟨b,0,none⟩).run prog w= .ok (.agg cs.toArray) w:=by
 have h1:=run_loadCells_list (P:=prog) w ⟨b,0,none⟩ cs (fun j v hj=>by rw[dP,QR];exact h j v hj);simp only[hl] at h1;have h2:(isAgg 41).run prog w= .ok true w:=by kernel_rfl
 have h3:(sizeOf 41).run prog w= .ok 18 w:=by kernel_rfl
 simp[loadVar,h1,h2,h3,Result.andThen]
theorem ka:(prog.info? 41).map (·.size)=some 18:=by kernel_rfl
theorem fJ:(aP aV).toArray.all (·.oneCell')=true:=all_oneCell_toArray (jI aV)
theorem RZ (w:Wo) (v:Va) (p:List Int) (h:Bs w w.heap.size v p) (eJ:dy p=none):
  Calls prog 116 #[v] w (OY w p):=by
 obtain⟨A,c,rfl,-,-⟩:=h.1.form;obtain⟨W0,aY⟩:=eX (w.alloc (.cells (aP aV).toArray 41));have R0:Af (aq W0 w.heap.size 41 (aP aV)):=by show aq _ _ _ _;rw[aY];exact ar w _ _
 have B0:Af (Below w.heap.size w W0):=by rw[aY];exact aF _ _
 have jr:Bs W0 W0.heap.size (.slice A p.length c) p:=⟨(h.1.below B0.o).more B0.o.size,h.2⟩;have HO:Af (Calls prog 90 #[.slice A p.length c] W0 fun e w' =>e= .returned (.tuple #[.int .u8 0,.slice none 0 0,.int .i64 10])∧Below W0.heap.size W0 w'):=(qM W0 _ p jr).mono fun e w' h=>by
  obtain⟨hb,⟨-,h1⟩|⟨k',YP,v',h2,-,-⟩⟩:=h
  ·exact⟨h1,hb⟩
  ·rw[eJ] at h2;cases h2
 have hd:Af (kA p=none):=by show _=_;unfold kA;rw[eJ]
 have HW:=aa aY.symm;generalize p.length=m at*;clear h aY jr eJ;refine(callsIn_wide (n:=3)).1 ?_;refine callsIn_of_wp_marks func116 rfl trivial ?_ rfl;simp only[ntmps116,QW,QF,Xq,Nat.reduceAdd,Nat.reduceSub,Xv,Xw,Xx,Xy,QZ,List.cons_append];refine wpIn_wide.2 ?_;go_upto_region 1 with fail
 change Code.wp _ _ _ _ (w.alloc (.cells (aP aV).toArray 41));rw[HW.o];go_upto_region 3 with(go_at_call 90;go_must(refine HO.o.mono ?_);rintro e W1 ⟨rfl,b1⟩;have B1:=aa b1;clear b1)
 obtain⟨W2,cE⟩:=eX (W1.alloc (.cells #[.slice none 0 0] 87));rw[←cE];have b2:Below W1.heap.size W1 W2:=by rw[cE];exact aF _ _
 have R2:=aa ((R0.o.on B1.o).on b2);have B2:=aa (B0.o.trans ((B1.o.trans (b2.mono B1.o.size)).mono B0.o.size));clear cE b2 HW HO;go_wp2_with(((refine wpList_store_mid rfl 41 _ _ rfl w.heap.size 0 (aP aV).toArray ?_ ?_ (dX R2.o ?_) ?_ fJ ?_);go_must((·rfl);(·rfl);(·exact Qg _);(·exact ka);go_frame)));have C3:=cN (S:=fun x=>x=w.heap.size) rfl (aP aV) 0 W2 (aG.refl _ W2);have R3:=R2.o.fill (vs:=aP aV) rfl;exact⟨_,cG rfl rfl (eZ (cs:=aP aV) rfl (fun j v hj=>R3.cell hj)),B2.o.trans (C3.below B2.o.size (fun x hx e=>by omega)),.inl ⟨hd.o,rfl⟩⟩
end
section
open Go.RowKit Go.Shelf
attribute [local go_sem] Oper.semAt_some
variable {body : List Int} {W W' : Wo} {v : Va} {n0 pb vb xb : Nat} {pre : List uq}
def tq (body:List Int) (k:Nat):List Va:=(List.range 18).map fun j=> .int (fy j) (if j<k then cK body (kK j).toNat (ia j).toNat else 0)
theorem uU (body:List Int) (k:Nat):(tq body k).length=18:=by simp[tq]
theorem qL (body:List Int) (k j:Nat) (hj:j<18):(tq body k)[j]? =some (.int (fy j) (if j<k then cK body (kK j).toNat (ia j).toNat else 0)):=by
 unfold tq;rw[Qt,List.getElem?_range hj];rfl
theorem Kt (body:List Int) (k:Nat) (_hk:k<18):tq body (k+1)=(tq body k).set k (.int (fy k) (cK body (kK k).toNat (ia k).toNat)):=by
 apply List.ext_getElem?;intro j;by_cases hj:j<18
 ·rw[qL body (k+1) j hj,List.getElem?_set];by_cases e:k=j
  ·subst e;rw[Xo rfl,Xo (XL k),Xo (by rw[uU];exact hj)]
  ·rw[Xd e,qL body k j hj];by_cases h:j<k
   ·rw[Xo (by omega),Xo h]
   ·rw[Xd (by omega),Xd h]
 ·rw[QQ (by rw[uU];omega),QQ (by rw[Zy,uU];omega)]
theorem PG (body:List Int):tq body 18=aP (gI body):=rfl
theorem xO (hb:∀x∈body,aI x):bM (gI body):=by
 refine⟨rfl,rfl,?_,?_,fun x hx=> ?_,fun x hx=> ?_⟩
 ·have:=cW hb 0 8;exact⟨this.1,by simpa[gI] using this.2⟩
 ·have:=cW hb 8 4;exact⟨this.1,by simpa[gI] using this.2⟩
 ·obtain⟨i,-,rfl⟩:=QU.1 hx;have:=cW hb (12+4*i) 4;exact⟨this.1,by simpa using this.2⟩
 ·obtain⟨i,-,rfl⟩:=QU.1 hx;have:=cW hb (44+8*i) 8;exact⟨this.1,by simpa using this.2⟩
theorem xQ (hb:∀x∈body,aI x) (k j:Nat):kX j (if j<k then cK body (kK j).toNat (ia j).toNat else 0):=by
 unfold kX;by_cases h:j<k
 ·rw[Xo h];have:=cW hb (kK j).toNat (ia j).toNat;exact⟨this.1,this.2⟩
 ·rw[Xd h];refine⟨Int.le_refl _,?_⟩;rcases gP j with e|e<;>rw[e]<;>decide
theorem VL {p:List Int} {k:Int} (ho:dy p=some (k,body)):kA p=if k=6∧((body.drop 108).take 7).all (·≤0)=true∧cK body 115 8=cK body 0 8∧nm (gI body)=true then some (gI body) else none:=by
 unfold kA;rw[ho]
theorem acp {w:Wo} {B:Nat} {A:Option Addr} {c:Nat} {l:List Int} (h:Bs w B (.slice A l.length c) l) (i j:Nat) (wJ:i≤j) (hj:j≤l.length) (hic:i<l.length):
  ∃b o,A=some ⟨b,o,none⟩∧Bs w B (.slice (some ⟨b,o+i,none⟩) (j - i) (c - i)) ((l.drop i).take (j - i)):=by
 obtain⟨b,o,e,h1⟩:=Fh h.ns i j wJ hj hic;exact⟨b,o,e,h1,fun x hx=>h.2 x (Q6 (Za hx))⟩
structure zr (w:Wo) (body:List Int) (v:Va) (n0 xb pb vb:Nat) (pre:List uq) (W:Wo):Prop where
 le:pre.length≤18
 sup:aq W xb 41 (tq body pre.length)
 vb:aq W vb 87 [v]
 bs:Bs W n0 v body
 box:aq W pb 205 [.pointer (some ⟨xb,0,none⟩)]
 res:aq W w.heap.size 41 (aP aV)
 low:Below w.heap.size w W
 n0:n0≤W.heap.size
theorem zr.on {w:Wo} (h:zr w body v n0 xb pb vb pre W) (hb:Below W.heap.size W W'):zr w body v n0 xb pb vb pre W' :=
 ⟨h.le,h.sup.on hb,h.vb.on hb,⟨h.bs.1.below (hb.mono h.n0),h.bs.2⟩,h.box.on hb,h.res.on hb,h.low.trans (hb.mono h.low.size),Qh h.n0 hb.size⟩
theorem zr.aL {S:Nat→Prop} {w:Wo} (h:zr w body v n0 xb pb vb pre W) (hc:aG S W W') (hS:∀k,(k=xb∨k=vb∨k=pb∨k<n0)→¬S k) (hn:w.heap.size<n0):zr w body v n0 xb pb vb pre W' :=
 ⟨h.le,h.sup.aL hc (hS xb (.inl rfl)),h.vb.aL hc (hS vb (.inr (.inl rfl))),⟨h.bs.1.below (hc.below h.n0 (fun x hx=>hS x (.inr (.inr (.inr hx))))),h.bs.2⟩,h.box.aL hc (hS pb (.inr (.inr (.inl rfl)))),h.res.aL hc (hS _ (.inr (.inr (.inr hn)))),h.low.trans (hc.below h.low.size (fun x hx=>hS x (.inr (.inr (.inr (by omega)))))),Qh h.n0 hc.size⟩
section
variable {P : Program} {ops : Array Oper} {w : Wo} {Q : Exit → Act → Wo → Prop} {a : Act} {rest : List Oper} {dst : Option Tmp} {x : Operand} {t ty : TypeId} {pos : String} {after : Array Edge}
theorem wl_loadG {g:Option (Nat×Bool)} (p v:Va) (hw:Region.wanted ⟨dst,.load t x,ty,pos,after,g⟩ (yielded ops a.tmps)=true) (hx:a.eval x=p) (h:(Instr.loadAt t p).run P w= .ok v w) (hk:wpList P ops Q rest (a.put dst v) w):
  wpList P ops Q (⟨dst,.load t x,ty,pos,after,g⟩::rest) a w:=by
 unfold wpList;rw[Xo hw];left;unfold Oper.wp;rw[←hx] at h;simp[execOp,h,Result.andThen];exact hk
end
theorem vi {w:Wo} {D:Nat} {C C0:List Va} (aU:Below w.heap.size w W) (hr:aq W w.heap.size 41 C0) (hl:C.length=18) (h0:C0.length=18) (hD:w.heap.size<D) (hK:W.heap[D]? =some (.deferred (some []))):
  (W.setCells w.heap.size 0 C).heap[D]? =some (.deferred (some []))∧∀o,(loadVar 41 ⟨w.heap.size,0,none⟩).run prog ((W.setCells w.heap.size 0 C).putObj D o)= .ok (.agg C.toArray) ((W.setCells w.heap.size 0 C).putObj D o)∧Below w.heap.size w ((W.setCells w.heap.size 0 C).putObj D o):=by
 have c3:=cN (S:=fun x=>x=w.heap.size) rfl C 0 W (aG.refl _ W);have r3:=hr.fill (vs:=C) (by omega);refine⟨(c3.block D (Qy.1 hK).1 (by omega)).trans hK,fun o=>⟨?_,?_⟩⟩
 ·exact eZ hl (fun j v hj=>(r3.aL (fY (fun x=>x=D) _ D o rfl) (by omega)).cell hj)
 ·exact(aU.trans (c3.below aU.size (fun x hx e=>by omega))).trans (fM _ D o (by omega))
theorem Mb (w:Wo) (v:Va) (p:List Int) (h:Bs w w.heap.size v p) (k:Int) (body:List Int) (ho:dy p=some (k,body)):
  Calls prog 116 #[v] w (OY w p):=by
 obtain⟨A,c,rfl,-,-⟩:=h.1.form;obtain⟨W0,aY⟩:=eX (w.alloc (.cells (aP aV).toArray 41));have R0:Af (aq W0 w.heap.size 41 (aP aV)):=by show aq _ _ _ _;rw[aY];exact ar w _ _
 have B0:Af (Below w.heap.size w W0):=by rw[aY];exact aF _ _
 have jr:Bs W0 W0.heap.size (.slice A p.length c) p:=⟨(h.1.below B0.o).more B0.o.size,h.2⟩;have HO:=aa (nH jr ho);obtain⟨fg,hkb,bO⟩:=jO ho h.2;have Hb:=iJ fg bO hkb;have hd:=aa (VL ho);have HW:=aa aY.symm;generalize p.length=m at*;clear h aY jr ho fg bO hkb;refine(callsIn_wide (n:=3)).1 ?_;refine callsIn_of_wp_marks func116 rfl trivial ?_ rfl;simp only[ntmps116,QW,QF,Xq,Nat.reduceAdd,Nat.reduceSub,Xv,Xw,Xx,Xy,QZ,List.cons_append];refine wpIn_wide.2 ?_;go_upto_region 1 with fail
 change Code.wp _ _ _ _ (w.alloc (.cells (aP aV).toArray 41));rw[HW.o];go_upto_region 2 with(go_at_call 90;go_must(refine HO.o.mono ?_);rintro e W1 ⟨A1,c1,rfl,o1,s1,b1⟩;have S1:=aa s1;have B1:=aa b1;clear o1 s1 b1)
 obtain⟨b,o,hA1,hcut⟩:=acp (l:=body) (A:=A1) (c:=c1) (by rw[Hb.o.1];exact S1.o) 108 115 (by decide) (by rw[Hb.o.1];decide) (by rw[Hb.o.1];decide);subst hA1;obtain⟨A9,c9,Ea,hc9,hm9⟩:=S1.o.1.form;injection Ea with e1 e2 e3
 subst e3;clear e1 e2;have YH:115≤c1:=by have:=Hb.o.1;omega
 obtain⟨vb,oQ⟩:=eX W1.heap.size;obtain⟨W2,cE⟩:=eX (W1.alloc (.cells #[.slice (some ⟨b,o,none⟩) 123 c1] 87));rw[←cE,←oQ];have b2:Below W1.heap.size W1 W2:=by rw[cE];exact aF _ _
 have V2:Af (aq W2 vb 87 [.slice (some ⟨b,o,none⟩) 123 c1]):=by show aq _ _ _ _;rw[cE,oQ];exact ar W1 [_] _
 have S2:Af (Bs W2 W2.heap.size (.slice (some ⟨b,o,none⟩) 123 c1) body):=⟨(S1.o.1.below b2).more b2.size,S1.o.2⟩;have HM:=aa (Rv W2 W1.heap.size _ _ ⟨hcut.1.below b2,hcut.2⟩ (by rw[Qu,Zt,Hb.o.1];decide) (by rw[Qu,Zt,Hb.o.1];decide));rw[show 115 - 108=7 from rfl] at HM;have Hmx:=aa (Lo ((body.drop 108).take 7));have R2:=aa ((R0.o.on B1.o).on b2);have B2:=aa (B0.o.trans ((B1.o.trans (b2.mono B1.o.size)).mono B0.o.size));have bj:Af (w.heap.size<vb):=by show _<_;rw[oQ];exact Qn R0.o.lt B1.o.size
 have v0:=V2.o.cell (j:=0) rfl;generalize Lib.maxOf ((body.drop 108).take 7)=mx at*;clear cE oQ b2 HW HO hcut S1;by_cases hk6:k=6
 ·subst hk6;by_cases SF:0<mx
  ·have JJ:Af (kA p=none):=by show _=_;rw[hd.o,Xd];rintro⟨-,h1,-⟩;have h2:=Hmx.o;rw[h1,Xa SF] at h2;cases h2
   go_upto_region 3 with(go_at_call 193;go_must(refine HM.o.mono ?_);rintro e W9 ⟨rfl,rfl⟩)
   clear v0;go_wp2_with(((refine wpList_store_mid rfl 41 _ _ rfl w.heap.size 0 (aP aV).toArray ?_ ?_ (dX R2.o ?_) ?_ fJ ?_);go_must((·rfl);(·rfl);(·exact Qg _);(·exact ka);go_frame)));have C3:=cN (S:=fun x=>x=w.heap.size) rfl (aP aV) 0 W2 (aG.refl _ W2);have R3:=R2.o.fill (vs:=aP aV) rfl;exact⟨_,cG rfl rfl (eZ (cs:=aP aV) rfl (fun j v hj=>R3.cell hj)),B2.o.trans (C3.below B2.o.size (fun x hx e=>by omega)),.inl ⟨JJ.o,rfl⟩⟩
  ·go_upto_region 4 with(go_at_call 193;go_must(refine HM.o.mono ?_);rintro e W9 ⟨rfl,rfl⟩)
   obtain⟨xb,eD⟩:=eX W2.heap.size;obtain⟨W3,cD⟩:=eX (W2.alloc (.cells (tq body 0).toArray 41));have mT:=aa cD.symm;have xD:=aa eD.symm;have b3:Below W2.heap.size W2 W3:=by rw[cD];exact aF _ _
   have X3:Af (aq W3 xb 41 (tq body 0)):=by show aq _ _ _ _;rw[cD,eD];exact ar W2 _ _
   have B3:=aa (B2.o.trans (b3.mono B2.o.size));have V3:=aa (V2.o.on b3);have R3:=aa (R2.o.on b3);have S3:Af (Bs W3 xb (.slice (some ⟨b,o,none⟩) 123 c1) body):=by show Bs _ _ _ _;rw[eD];exact⟨S2.o.1.below b3,S2.o.2⟩
   have Ke:Af (w.heap.size<vb∧vb<xb∧xb<W3.heap.size):=⟨bj.o,by rw[eD];exact V2.o.lt,X3.o.lt⟩;clear cD eD b3 v0 HM;go_upto_region 5 with fail
   change Code.wp _ _ _ _ (W2.alloc (.cells (tq body 0).toArray 41));rw[mT.o,xD.o];go_upto_region 7 with(go_at_call 105;go_must(refine(vP W3 xb).mono ?_);rintro e W5 ⟨rfl,rfl⟩)
   obtain⟨W5,j6,P5,qd⟩:=nW W3 [.pointer (some ⟨xb,0,none⟩)] 205;obtain⟨pb,xy⟩:∃y,y=W3.heap.size:=⟨_,rfl⟩;rw[←j6,←xy];rw[←xy] at P5;have Iv:zr w body (.slice (some ⟨b,o,none⟩) 123 c1) xb xb pb vb [] W5:=
    ⟨by decide,X3.o.on qd,V3.o.on qd,⟨S3.o.1.below (qd.mono (QX Ke.o.2.2)),S3.o.2⟩,P5,R3.o.on qd,B3.o.trans (qd.mono B3.o.size),Qh (QX Ke.o.2.2) qd.size⟩
   have ID:=aa Iv;have kS:Af (w.heap.size<vb∧vb<xb∧xb<pb∧pb<W5.heap.size):=⟨Ke.o.1,Ke.o.2.1,by rw[xy];exact Ke.o.2.2,P5.lt⟩;have ZF:=fun (w:Wo) (a:Addr) (f:Fn) (xs ys:Array Va)=>run_store_func (P:=prog) (w:=w) (a:=a) (m:= .plain) f xs ys
   simp only[stored] at ZF;clear qd P5 j6 xy Iv X3 V3 S3 R3 B3 mT xD Ke;refine(wpIn_wide (n:=3)).1 ?_;refine xZ (α:=uq) (P:=prog) rfl (by decide) (gf:=185) (lb:= #[.pointer (some ⟨pb,0,none⟩)]) rfl trivial (enters_of func185 (by kernel_rfl) rfl) E6 (fun _=>rfl)
    (fun k=>k=xb) (Yg xb pb) (fun pre=>pre.length=18) (zr w body (.slice (some ⟨b,o,none⟩) 123 c1) xb xb pb vb) ?h0 ?hIc ?hit ?hOb
    (fun e W=>{tmps:= #[.slice A m c,undef,.pointer (some ⟨w.heap.size,0,none⟩),.int .i64 0,.int .u8 6,.pointer (some ⟨vb,0,none⟩),.int .i64 0,.pointer (some ⟨xb,0,none⟩),.int .i64 (kK e.k),.pointer (some ⟨W.heap.size,0,none⟩),undef,undef,undef,undef,.tuple #[.int .u8 6,.slice (some ⟨b,o,none⟩) 123 c1,.int .i64 0],.slice A m c,.tuple #[.int .u8 6,.slice (some ⟨b,o,none⟩) 123 c1,.int .i64 0],.int .u8 6,.slice (some ⟨b,o,none⟩) 123 c1,.int .i64 0,.int .i64 0,.bool false,.bool false,.int .u8 6,.bool false,.bool false,.bool false,.slice (some ⟨b,o,none⟩) 123 c1,.slice (some ⟨b,o+108,none⟩) 7 (c1 - 108),.int .u8 mx,.bool (decide (0<mx)),.bool (decide (0<mx)),undef,.func (.func 185) #[] #[.pointer (some ⟨pb,0,none⟩)],.int .i64 (kK e.k),.agg #[.int .i64 (ia e.k),.int .u64 e.get,.func (.func e.f) #[] e.bx],undef,undef,undef,undef,undef,undef,undef,undef,undef,undef,undef,undef,undef,undef,undef,undef,undef,undef,undef,undef,undef,undef,undef,undef,undef,undef,undef,undef],defers:=[]})
    (fun e W=>W.alloc (.cells #[.int .i64 (ia e.k),.int .u64 e.get,.func (.func e.f) #[] e.bx] 208)) (fun e W=>aF _ _) ?assign ?body ?done
   case h0=>exact fun W hW=>ID.o.on hW
   case hIc=>exact fun pre A C' h hc=>h.aL hc (fun k hk=>by have:=kS.o;rcases hk with rfl|rfl|rfl|hk<;>omega) (by have:=kS.o;omega)
   case hOb=>exact fun pre x A C' h hb=>h.on hb
   case hit=>
    intro l J W hW hJI hJc hY Iu;refine(callsIn_wide (n:=2)).2 (yI W l xb pb (fun k=>k=xb) J ⟨hJc,hY,fun pre A hj=>(hJI _ _ hj).box,fun pre A hj k hk=>⟨_,xQ Hb.o.2.1 pre.length k,(hJI _ _ hj).sup.cell (qL body pre.length k hk)⟩,?_,?_⟩ Iu)
    ·have:=kS.o;have:=hW.size;omega
    ·rintro k rfl;have:=kS.o;have:=hW.size;omega
   case assign=>
    intro l e W K hK;unfold E6
    gi_wp2
    exact hK
   case body=>
    intro l pre x W0 ob Y8 ec hI hl AS Ec cz;obtain⟨xk,xg,xf,Tj⟩:=x;dsimp only at ec hI⊢;have aJ:=(Qy.1 AS).1;have F0:=ar W0 [.int .i64 (ia xk),.int .u64 xg,.func (.func xf) #[] Tj] 208;have q:aG (fun k=>k=l) (W0.alloc (.cells #[.int .i64 (ia xk),.int .u64 xg,.func (.func xf) #[] Tj] 208)) ((W0.alloc (.cells #[.int .i64 (ia xk),.int .u64 xg,.func (.func xf) #[] Tj] 208)).putObj l Y8):=fY _ _ _ _ rfl;have AY:=hI.aL q (fun k hk=>by have:=kS.o;rcases hk with rfl|rfl|rfl|hk<;>omega) (by have:=kS.o;omega);have hF6:=F0.aL q (by omega);have Bp:sJ ((W0.alloc (.cells #[.int .i64 (ia xk),.int .u64 xg,.func (.func xf) #[] Tj] 208)).putObj l Y8) pb xk (.func (.func xf) #[] Tj):=ec.2.2.1.aL fun b cs hB=>hB.aL q (by
     rintro rfl;have h1:(W0.alloc (.cells #[.int .i64 (ia xk),.int .u64 xg,.func (.func xf) #[] Tj] 208)).heap[b]? =some ob:=by rw[←AS];exact(aF W0 _).block b aJ
     have h2:=h1.symm.trans hB;cases h2
     cases Ec)
    have EY:xk<18:=ec.2.1;have tg:xk=pre.length:=ec.1;obtain⟨W6,jc⟩:∃y,y=(W0.alloc (.cells #[.int .i64 (ia xk),.int .u64 xg,.func (.func xf) #[] Tj] 208)).putObj l Y8 :=⟨_,rfl⟩;rw[←jc] at AY hF6 Bp⊢;have ha:=ln xk (by omega);have hz:=gP xk;have hn:=xQ Hb.o.2.1 (xk+1) xk;rw[Xo (XL _)] at hn;obtain⟨y,hy⟩:=eX (cK body (kK xk).toNat (ia xk).toNat);have HG:=aa (lf W6 xb _ body AY.bs (kK xk).toNat (ia xk).toNat (by omega) (by have:=Hb.o.1;omega) (by rw[Hb.o.1];decide));rw[Xp ha.1,Xp (by omega),←hy] at HG;rw[←hy] at hn;have HS:=aa (Ve W6 pb xb xk xf Tj y _ Bp AY.box AY.sup hn (fun j hj=>⟨_,qL body pre.length j hj⟩));have v0:=AY.vb.cell (j:=0) rfl;obtain⟨e0,e1,e2⟩:=ra hF6;have HXI:=aa AY;have mZ:Af (∀W7,aq W7 xb 41 ((tq body pre.length).set xk (.int (fy xk) y))→aG (fun k=>k=xb) W6 W7→zr w body (.slice (some ⟨b,o,none⟩) 123 c1) xb xb pb vb (pre++[⟨xk,xg,xf,Tj⟩]) W7):=by intro W7 h7 c7;have agr:=kS.o;have WC:=c7.below AY.n0 (fun k hk e=>by omega);refine⟨by rw[Qo,ZA];omega,?_,AY.vb.aL c7 (by omega),⟨AY.bs.1.below WC,AY.bs.2⟩,AY.box.aL c7 (by omega),AY.res.aL c7 (by omega),AY.low.trans (c7.below AY.low.size (fun k hk e=>by omega)),Qh AY.n0 c7.size⟩;rw[Qo,ZA,←tg,Kt body xk EY,←hy];rw[←tg] at h7;exact h7
    have EM:Af (∀(j:Nat) (ob:Obj),some xb=some j→W6.heap[j]? =some ob→ob.isCells=true):=fun j ob e h=>by
     cases e
     rw[AY.sup] at h;cases h
     rfl
    clear hn hy ha hz tg EY AY hF6 q F0 jc aJ ec hI hl AS Ec cz ID Hmx;generalize kK xk=A' at*;generalize ia xk=Z' at*;rcases Bp with⟨rfl,e⟩|⟨rfl,e⟩|⟨i,ib,hi,rfl,e,ub⟩|⟨i,ib,hi,rfl,e,ub⟩
    ·cases e
     have j2:=aa (show Calls _ _ #[.int .u64 y,.pointer (some ⟨pb,0,none⟩)] _ _ from HS.o);clear HS
     gi_wp2_with (first
      |(refine⟨trivial,?_⟩;gi_at_call 172;refine(CallsIn.inRound l (callsIn_wide.2 HG.o)).mono ?_;rintro e W7 ⟨rfl,rfl⟩)
      |(refine⟨trivial,?_⟩;gi_at_call 187;refine(CallsIn.inRound l (callsIn_wide.2 j2.o)).mono ?_;rintro e W7 ⟨⟨v,rfl⟩,s7,c7⟩;have S7:=aa s7;have C7:=aa c7;clear s7 c7))
     exact⟨KeepsOthers.of_grownBy C7.o.rE EM.o,C7.o,mZ.o _ S7.o C7.o⟩
    ·cases e
     have j2:=aa (show Calls _ _ #[.int .u64 y,.pointer (some ⟨pb,0,none⟩)] _ _ from HS.o);clear HS
     gi_wp2_with (first
      |(refine⟨trivial,?_⟩;gi_at_call 172;refine(CallsIn.inRound l (callsIn_wide.2 HG.o)).mono ?_;rintro e W7 ⟨rfl,rfl⟩)
      |(refine⟨trivial,?_⟩;gi_at_call 188;refine(CallsIn.inRound l (callsIn_wide.2 j2.o)).mono ?_;rintro e W7 ⟨⟨v,rfl⟩,s7,c7⟩;have S7:=aa s7;have C7:=aa c7;clear s7 c7))
     exact⟨KeepsOthers.of_grownBy C7.o.rE EM.o,C7.o,mZ.o _ S7.o C7.o⟩
    ·cases e
     clear hi ub;have j2:=aa (show Calls _ _ #[.int .u64 y,.pointer (some ⟨pb,0,none⟩),.pointer (some ⟨ib,0,none⟩)] _ _ from HS.o);clear HS
     gi_wp2_with (first
      |(refine⟨trivial,?_⟩;gi_at_call 172;refine(CallsIn.inRound l (callsIn_wide.2 HG.o)).mono ?_;rintro e W7 ⟨rfl,rfl⟩)
      |(refine⟨trivial,?_⟩;gi_at_call 189;refine(CallsIn.inRound l (callsIn_wide.2 j2.o)).mono ?_;rintro e W7 ⟨⟨v,rfl⟩,s7,c7⟩;have S7:=aa s7;have C7:=aa c7;clear s7 c7))
     exact⟨KeepsOthers.of_grownBy C7.o.rE EM.o,C7.o,mZ.o _ S7.o C7.o⟩
    ·cases e
     clear hi ub;have j2:=aa (show Calls _ _ #[.int .u64 y,.pointer (some ⟨pb,0,none⟩),.pointer (some ⟨ib,0,none⟩)] _ _ from HS.o);clear HS
     gi_wp2_with (first
      |(refine⟨trivial,?_⟩;gi_at_call 172;refine(CallsIn.inRound l (callsIn_wide.2 HG.o)).mono ?_;rintro e W7 ⟨rfl,rfl⟩)
      |(refine⟨trivial,?_⟩;gi_at_call 190;refine(CallsIn.inRound l (callsIn_wide.2 j2.o)).mono ?_;rintro e W7 ⟨⟨v,rfl⟩,s7,c7⟩;have S7:=aa s7;have C7:=aa c7;clear s7 c7))
     exact⟨KeepsOthers.of_grownBy C7.o.rE EM.o,C7.o,mZ.o _ S7.o C7.o⟩
   case done=>
    rintro D W pre hD dh hI hK;have agr:=kS.o;have NY:=hI.sup;rw[dh,PG] at NY;have ec:=xO Hb.o.2.1;have v0:=hI.vb.cell (j:=0) rfl;have x0:W.cell? ⟨xb,0,none⟩=some (.int .u64 (cK body 0 8)):=NY.cell (j:=0) rfl;have HG:Af (Calls prog 172 #[.slice (some ⟨b,o,none⟩) 123 c1,.int .i64 115,.int .i64 8] W fun e w' =>e= .returned (.tuple #[.int .u64 (cK body 115 8),.bool true])∧W=w'):=
     lf W xb _ body hI.bs 115 8 (by decide) (by rw[Hb.o.1];decide) (by rw[Hb.o.1];decide)
    have HL:=aa (ef (w:=W) (b:=xb) (cs:=aP (gI body)) (bK ec) (fun j v hj=>NY.cell hj));have HR:=aa (vB W (gI body) ec);have zv:=aa hI.res;have HX:=aa NY;have qm:=aa hI.low;have HD:=aa hD;have HK:=aa hK;have qe:=aa ec;have Fe:Af (((body.drop 108).take 7).all (·≤0)=true):=by
     have h1:=Hmx.o;rw[Xe (by omega)] at h1;show _=_;cases hc:((body.drop 108).take 7).all (·≤0)
     ·rw[hc] at h1;cases h1
     ·rfl
    obtain⟨g9,hg9⟩:=eX (cK body 115 8);obtain⟨g0,AV⟩:∃g,g=cK body 0 8:=⟨_,rfl⟩;have Hg:=dK hg9 AV;rw[←hg9] at HG;rw[←AV] at x0;obtain⟨C,hC⟩:=eX (aP (gI body));have HC:=aa hC;rw[←hC] at HL HR HX;clear hg9 AV hC ec NY agr hI hK hD dh ID Hmx;by_cases pj:g9=g0
    ·subst pj;obtain⟨rb,ft⟩:=eX (nm (gI body));have wD:=aa ft;rw[←ft] at HR;clear ft;cases rb with
     |false=>
      have JJ:Af (kA p=none):=by show _=_;rw[hd.o,Xd];rintro⟨-,-,-,h1⟩;rw[←wD.o] at h1;cases h1
      go_upto_region 12 with(first
       |(go_at_call 172;go_must(refine HG.o.mono ?_);rintro e W7 ⟨rfl,rfl⟩)
       |((with_reducible refine wl_loadG _ _ ?_ ?_ HL.o ?_);go_must((·rfl);(·rfl);go_frame))
       |(go_at_call 104;go_must(refine HR.o.mono ?_);rintro e W8 ⟨rfl,b8⟩;have B8:=aa b8;clear b8))
      have BI:=zv.o.on B8.o;have OO:=qm.o.trans (B8.o.mono qm.o.size);have Ng:=(B8.o.block D (Qy.1 HK.o).1).trans HK.o;have OV:=aa BI;clear v0 x0 HL HR HG;go_wp2_with(((refine wpList_store_mid rfl 41 _ _ rfl w.heap.size 0 (aP aV).toArray ?_ ?_ (dX OV.o ?_) ?_ fJ ?_);go_must((·rfl);(·rfl);(·exact Qg _);(·exact ka);go_frame)));obtain⟨k1,k2⟩:=vi (C:=aP aV) OO BI rfl rfl (by have:=HD.o;have:=kS.o;omega) Ng;exact⟨by simp,.inl ⟨_,_,rfl,run_takeDeferred k1,⟨_,cG rfl rfl (k2 _).1,(k2 _).2,.inl ⟨JJ.o,rfl⟩⟩⟩⟩
     |true=>
      go_upto_region 13 with(first
       |(go_at_call 172;go_must(refine HG.o.mono ?_);rintro e W7 ⟨rfl,rfl⟩)
       |((with_reducible refine wl_loadG _ _ ?_ ?_ HL.o ?_);go_must((·rfl);(·rfl);go_frame))
       |(go_at_call 104;go_must(refine HR.o.mono ?_);rintro e W8 ⟨rfl,b8⟩;have B8:=aa b8;clear b8))
      have BI:=zv.o.on B8.o;have OO:=qm.o.trans (B8.o.mono qm.o.size);have Ng:=(B8.o.block D (Qy.1 HK.o).1).trans HK.o;have OV:=aa BI;have X8:=HX.o.on B8.o;have HL8:=aa (ef (w:=W8) (b:=xb) (cs:=C) (by rw[HC.o];exact bK qe.o) (fun j v hj=>X8.cell hj));have je:Af (C.length=18):=by show _=_;rw[HC.o];exact bK qe.o
      have su:Af (C.toArray.all (·.oneCell')=true):=by show _=_;rw[HC.o];exact all_oneCell_toArray (jI _)
      have wO:Af ((prog.info? 41).map (·.size)=some C.toArray.size):=by show _=_;rw[QW,je.o];exact ka
      have am2:Af (kA p=some (gI body)):=by show _=_;rw[hd.o,Xo];exact⟨trivial,Fe.o,by rw[←Hg.o.1,←Hg.o.2],wD.o.symm⟩
      clear v0 x0 HL HR HG;go_wp2_with(first
       |((with_reducible refine wl_load _ _ ?_ HL8.o ?_);go_must((·rfl);go_frame))
       |((refine wpList_store_mid rfl 41 _ _ rfl w.heap.size 0 C.toArray ?_ ?_ (dX OV.o ?_) wO.o su.o ?_);go_must((·rfl);(·rfl);(·exact Xg je.o);go_frame)))
      obtain⟨k1,k2⟩:=vi (C:=C) OO BI je.o rfl (by have:=HD.o;have:=kS.o;omega) Ng;exact⟨by simp,.inl ⟨_,_,rfl,run_takeDeferred k1,⟨_,cG rfl rfl (k2 _).1,(k2 _).2,.inr ⟨_,am2.o,qe.o,by rw[HC.o];rfl⟩⟩⟩⟩
    ·have JJ:Af (kA p=none):=by show _=_;rw[hd.o,Xd];rintro⟨-,-,h1,-⟩;exact pj (by rw[Hg.o.1,Hg.o.2,h1])
     clear HR HL;go_upto_region 12 with(first
      |(go_at_call 172;go_must(refine HG.o.mono ?_);rintro e W7 ⟨rfl,rfl⟩)
      |fail)
     clear v0 x0;go_wp2_with(((refine wpList_store_mid rfl 41 _ _ rfl w.heap.size 0 (aP aV).toArray ?_ ?_ (dX zv.o ?_) ?_ fJ ?_);go_must((·rfl);(·rfl);(·exact Qg _);(·exact ka);go_frame)));obtain⟨k1,k2⟩:=vi (C:=aP aV) qm.o zv.o rfl rfl (by have:=HD.o;have:=kS.o;omega) HK.o;exact⟨by simp,.inl ⟨_,_,rfl,run_takeDeferred k1,⟨_,cG rfl rfl (k2 _).1,(k2 _).2,.inl ⟨JJ.o,rfl⟩⟩⟩⟩
 ·have JJ:Af (kA p=none):=by show _=_;rw[hd.o,Xd];rintro⟨h1,-⟩;exact hk6 h1
  clear HM;go_wp2_with(((refine wpList_store_mid rfl 41 _ _ rfl w.heap.size 0 (aP aV).toArray ?_ ?_ (dX R2.o ?_) ?_ fJ ?_);go_must((·rfl);(·rfl);(·exact Qg _);(·exact ka);go_frame)));have C3:=cN (S:=fun x=>x=w.heap.size) rfl (aP aV) 0 W2 (aG.refl _ W2);have R3:=R2.o.fill (vs:=aP aV) rfl;exact⟨_,cG rfl rfl (eZ (cs:=aP aV) rfl (fun j v hj=>R3.cell hj)),B2.o.trans (C3.below B2.o.size (fun x hx e=>by omega)),.inl ⟨JJ.o,rfl⟩⟩
theorem CU (w:Wo) (v:Va) (p:List Int) (h:Bs w w.heap.size v p):Calls prog 116 #[v] w (OY w p):=by
 cases ho:dy p with
 |none=>exact RZ w v p h ho
 |some q=>exact Mb w v p h q.1 q.2 ho
end
section
open Go.RowKit Go.Shelf
attribute [local go_sem] Oper.semAt_some
theorem Mm (g:Int) (hg:bI g):bits BinOp.and IntKind.u64 g 1=g%2:=by
 obtain⟨n,rfl⟩:∃n:Nat,g=n:=⟨g.toNat,by have:=hg.1;omega⟩;have h2:=hg.2;rw[show(1:Int)=((1:Nat):Int) from rfl,bits_and_u64_nat n 1 (by omega) (by decide),Nat.and_one_is_mod];rfl
theorem uW (w:Wo) (g:Int) (hg:bI g):
  Calls prog 117 #[.int .u64 g] w fun e w' =>e= .returned (.int .i64 (g%2))∧w=w' :=by
 have hb:=Mm g hg;have hw:wrap64 (g%2)=g%2:=by unfold wrap64;omega
 go_enter func117,ntmps117;go_wp2_with fail;go_ret;exact⟨rfl,rfl⟩
end
end Go.Proofs.YthgdhacopamklaaGreat

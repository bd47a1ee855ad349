/- What HashNone asks, part 27 of 41: parts of the walks and laws, each true as it stands. -/
import Derived.Test.YthgdhacopamklaaGreatTAZ
set_option maxHeartbeats 16000000
set_option maxRecDepth 100000
set_option linter.unusedVariables false
set_option linter.unusedSimpArgs false
namespace Go.Proofs.YthgdhacopamklaaGreat
open Go.Proofs.Tryz
section
open Go.RowKit
attribute [local go_sem] Oper.semAt_some
theorem DJ (w:Wo) (v u:Va) (ps qs:List (ay×Va)) (h:mP w w.heap.size v ps) (h' :mP w w.heap.size u qs) (hl:ps.length≤100000):
  Calls prog 222 #[v,u,.func (.func 223) #[] #[]] w fun r w' =>r= .returned (.bool (decide (ps.map Prod.fst=qs.map Prod.fst)))∧Below w.heap.size w w' :=by
 obtain⟨A,c,rfl⟩:=h.form;obtain⟨A',d,rfl⟩:=h'.form;obtain⟨n,hn⟩:=eX ps.length;obtain⟨n',sf⟩:=eX qs.length;rw[←hn,←sf];obtain⟨T,hT⟩:=eX (decide (ps.map Prod.fst=qs.map Prod.fst));rw[←hT];by_cases jX:n=n'
 ·subst jX;have H:=aa h;have H' :=aa h';have Hn:=kH hn sf (by omega:n≤100000) hT;clear h h' hl hn sf hT;go_enter func222,ntmps222;go_wp2_with fail;go_loopw [17] (fun iv wr=>∃k:Nat,iv= .int .i64 k∧Af (k≤n∧(ps.map Prod.fst).take k=(qs.map Prod.fst).take k∧Below w.heap.size w wr)) (fun iv _=>n - (intOf iv).toNat)
  case atStart=>exact⟨0,rfl,⟨Qp _,rfl,Xj _ _⟩⟩
  case round=>
   obtain⟨k,rfl,HR⟩:=hrel;by_cases hk:k<n
   ·obtain⟨p,hp⟩:∃p,ps[k]? =some p:=⟨_,Qf (by rw[←Hn.o.1];exact hk)⟩;obtain⟨q,hq⟩:∃p,qs[k]? =some p:=⟨_,Qf (by rw[←Hn.o.2.1];exact hk)⟩;have hS:=H.o.below HR.o.2.2;have TM :=H'.o.below HR.o.2.2;obtain⟨b,o,c',hv,bO,z0,z1,z2⟩:=hS.cells hp;obtain rfl:A=some ⟨b,o,none⟩:=by injection hv
    obtain⟨b',o',d',mQ,tu,y0,y1,y2⟩:=TM.cells hq;obtain rfl:A' =some ⟨b',o',none⟩:=by injection mQ
    have eE:=hS.es p (Qi hp);have aa7 :=TM.es q (Qi hq);obtain⟨Ae,ce,hU,-,-⟩:=eE.1.1.form;obtain⟨L,hL⟩:=eX p.1.es.length;obtain⟨Ae',ce',UK,-,-⟩:=aa7.1.1.form;obtain⟨L',hL'⟩:=eX q.1.es.length;rw[←hL] at hU;rw[hU] at z2;rw[←hL'] at UK;rw[UK] at y2;obtain⟨dp,hd⟩:=eX p.1.depth;obtain⟨nx,fu⟩:=eX p.1.next;obtain⟨dp',hd'⟩:=eX q.1.depth;obtain⟨nx',aa0⟩:=eX q.1.next;rw[←hd] at z0;rw[←fu] at z1;rw[←hd'] at y0;rw[←aa0] at y1;obtain⟨W3,cD,X3,b3⟩:=nW wr [.int .u8 dp,.int .u32 nx,.slice Ae L ce] 92;have s3:W3.heap.size=wr.heap.size+1:=by rw[cD];simp
    obtain⟨W4,j7,Y4,b4⟩:=nW W3 [.int .u8 dp',.int .u32 nx',.slice Ae' L' ce'] 92;have WK:=b3.trans (b4.mono b3.size);obtain⟨R,hR⟩:=eX (decide (p.1=q.1));have AZ:=rI W4 p.1 q.1 p.2 q.2 (gA (eE.1.more HR.o.2.2.size) WK) (gA (aa7.1.more HR.o.2.2.size) WK) (Qh eE.2.2.2 (by decide));rw[←hR,←hd,←fu,←hd',←aa0,hU,UK] at AZ;have WY:=aa AZ;have cU:=aa HR.o;have HX:=kH hp hq hR hk;have X4:=X3.on b4;obtain⟨x0,x1,x2⟩:=ra X4;obtain⟨w0,w1,w2⟩:=ra Y4;have y0' :=(b3.cell (p:=⟨b',o' +k*3,none⟩) (Qn tu HR.o.2.2.size)).trans y0;have y1' :=(b3.cell (p:=⟨b',o' +k*3+1,none⟩) (Qn tu HR.o.2.2.size)).trans y1;have y2' :=(b3.cell (p:=⟨b',o' +k*3+2,none⟩) (Qn tu HR.o.2.2.size)).trans y2;have HB:=aa (HR.o.2.2.trans (WK.mono HR.o.2.2.size));have mT:=aa cD.symm;have Bh:=aa j7.symm;obtain⟨gx,pZ⟩:=eX wr.heap.size;obtain⟨gy,ZW⟩:=eX W3.heap.size;rw[←pZ] at x0 x1 x2;rw[←ZW] at w0 w1 w2;have Hg:=dK pZ.symm ZW.symm;obtain⟨u1,u2,u3⟩:=bR hk Hn.o.2.2.1 (by decide);have Hu:=aa u1;have HLt:=dK tu bO;clear hv bO hS hp eE AZ hR hU hL hd fu HR hk u1 mQ tu TM hq aa7 UK hL' hd' aa0 cD X3 b3 s3 j7 Y4 b4 WK X4 pZ ZW y0 y1 y2;go_upto_region 6 with fail
    rw[mT.o,Hg.o.1];clear z0 z1 z2;go_upto_region 7 with fail
    rw[Bh.o,Hg.o.2];clear y0' y1' y2';cases R
    ·have HT:Af (T=false):=by
      show _=_;rw[Hn.o.2.2.2];refine Xe fun he=> ?_
      have h1:=of_decide_eq_false HX.o.2.2.1.symm;have h2:(ps.map Prod.fst)[k]? =some p.1:=by rw[Qt,HX.o.1];rfl
      have h3:(qs.map Prod.fst)[k]? =some q.1:=by rw[Qt,HX.o.2.1];rfl
      rw[he,h3] at h2;exact h1 (Qr h2).symm
     go_wp2_with(go_at_call 223;go_must(refine WY.o.mono ?_);rintro e W5 ⟨rfl,b5⟩;have B5:=aa b5;clear b5)
     all_goals(try rw[Qv])
     all_goals go_ret
     all_goals exact⟨by rw[HT.o];rfl,HB.o.trans (B5.o.mono HB.o.size)⟩
    ·go_wp2_with(go_at_call 223;go_must(refine WY.o.mono ?_);rintro e W5 ⟨rfl,b5⟩;have B5:=aa b5;clear b5);refine⟨⟨k+1,by first|rfl|(rw[Hu.o];rfl),HX.o.2.2.2,(uT cU.o.2.1 (by rw[Qt,HX.o.1];rfl) (by rw[Qt,HX.o.2.1];rfl)).2 (XQ HX.o.2.2.1.symm),HB.o.trans (B5.o.mono HB.o.size)⟩,by first|exact al HX.o.2.2.2|(rw[Hu.o];exact al HX.o.2.2.2)⟩
   ·have cH:=QE HR.o.1 (QC hk);have HT:Af (T=true):=by show _=_;rw[Hn.o.2.2.2];have h1:=HR.o.2.1;rw[cH,Qj (by rw[Qq];exact Xg Hn.o.1.symm),Qj (by rw[Qq];exact Xg Hn.o.2.1.symm)] at h1;exact Xa h1
    have HL:=aa HR.o.2.2;subst cH;clear HR hk;go_wp2_with fail
    try rw[Qv]
    go_ret;exact⟨by rw[HT.o];rfl,HL.o⟩
 ·have HT:Af (T=false):=by
   show _=_;rw[hT];refine Xe fun he=>jX ?_
   have:=XF List.length he;rw[Qq,Qq] at this;rw[hn,sf,this]
  have Wp:¬(n:Int)=n' :=fun h=>jX (Int.ofNat.inj h)
  clear h h' hl hn sf jX hT;go_enter func222,ntmps222;go_wp2_with fail
  all_goals(try rw[Qv])
  all_goals go_ret
  all_goals exact⟨by rw[HT.o];rfl,Xj _ _⟩
theorem KD (w:Wo) (a c:ak) (v u:Va) (h:Uq w w.heap.size v a) (h' :Uq w w.heap.size u c) (hl:a.blocks.length≤100000) (hl' :c.blocks.length≤100000) (rf:a.ah.length≤100000):
  Calls prog 142 #[v,u] w fun r w' =>r= .returned (.bool (decide (a=c)))∧Below w.heap.size w w' :=by
 obtain⟨bv,sv,ps,rfl,hb,hs,fc⟩:=h.ex;obtain⟨NC,tZ,qs,rfl,EB,hs',hqs⟩:=h'.ex;obtain⟨W0,aY,X0,B0⟩:=nW w [.int .i64 a.ax,.int .i64 a.depth,bv,sv] 50;have s0:W0.heap.size=w.heap.size+1:=by rw[aY];simp
 obtain⟨W1,aW,Y1,B1⟩:=nW W0 [.int .i64 c.ax,.int .i64 c.depth,NC,tZ] 50;have fI:=B0.trans (B1.mono B0.size);have X1:=X0.on B1;rw[s0] at Y1;have HE:=ach W1 bv NC a.blocks c.blocks _ _ (Ns.below hb fI) (Ns.below EB fI) (Qh hl (by decide)) (Qh hl' (by decide));have HF:=fun W2 (b2:Below W1.heap.size W1 W2)=>DJ W2 sv tZ ps qs ((hs.below (fI.trans (b2.mono fI.size))).more (Qh fI.size b2.size)) ((hs'.below (fI.trans (b2.mono fI.size))).more (Qh fI.size b2.size)) (by rw[←fc,Qq] at rf;exact rf)
 rw[fc,hqs] at HF;obtain⟨yb,Io⟩:=eX (w.heap.size+1);rw[←Io] at Y1;obtain⟨af,haf⟩:=eX a.ax;obtain⟨ad,had⟩:=eX a.depth;obtain⟨cf,SP⟩:=eX c.ax;obtain⟨cd,hcd⟩:=eX c.depth;rw[←haf,←had] at X1 aY⊢;rw[←SP,←hcd] at Y1 aW⊢;have HW:=iJ aY.symm aW.symm Io.symm;obtain⟨x0,x1,x2⟩:=ra X1;obtain⟨y0,y1,y2⟩:=ra Y1;replace X1:=aa X1;replace Y1:=aa Y1;have HB:=aa fI;obtain⟨R,hR⟩:=eX (a.blocks==c.blocks);obtain⟨R2,SU⟩:=eX (decide (a.ah=c.ah));rw[←hR] at HE;replace HE:=aa HE;simp only[←SU] at HF;replace HF:=aa HF;have HT:Af (decide (a=c)=(((af:Int)==cf)&&(((ad:Int)==cd)&&(R&&R2)))):=by
  show _=_;rw[haf,had,SP,hcd,hR,SU,XD];simp only[XS,XR,beq_iff_eq,Int.natCast_inj];constructor
  ·rintro rfl;exact⟨rfl,rfl,rfl,rfl⟩
  ·rintro⟨h1,h2,h3,h4⟩;cases a;cases c;simp_all
 clear h h' hb hs fc EB hs' hqs hl hl' rf haf had SP hcd aY X0 B0 s0 aW B1 fI Io hR SU;go_enter func142,ntmps142;go_upto_region 1 with fail
 rw[HW.o.1,HW.o.2.1]
 try rw[HW.o.2.2]
 go_wp2_with(first
  |(go_at_call 221;go_must(refine HE.o.mono ?_);rintro e W2 ⟨rfl,q2,MD⟩;have b2:Below W1.heap.size W1 W2:=(by(rw[MD];exact DK W1 q2));clear MD;have x3:=(X1.o.on b2).cell (j:=3) rfl;have y3:=(Y1.o.on b2).cell (j:=3) rfl;have HG:=aa (HF.o W2 b2);have B2:=aa (HB.o.trans (b2.mono HB.o.size));clear b2)
  |(go_at_call 222;go_must(refine HG.o.mono ?_);rintro e W3 ⟨rfl,b3⟩;have B3:=aa (B2.o.trans (b3.mono B2.o.size));clear b3))
 all_goals go_ret
 ·exact⟨by rw[HT.o];simp[*],B3.o⟩
 ·exact⟨by rw[HT.o];simp[*],B2.o⟩
 ·exact⟨by rw[HT.o];simp[*],HB.o⟩
 ·exact⟨by rw[HT.o];simp[*],HB.o⟩
end
section
variable {α β : Type}
def foldI {α β:Type} (f:β→Nat→α→β):Nat→List α→β→β
 |_,[],b=>b
 |i,a::r,b=>foldI f (i+1) r (f b i a)
theorem mg (f:β→Nat→α→β):∀(l r:List α) (i:Nat) (b:β),foldI f i (l++r) b=foldI f (i+l.length) r (foldI f i l b)
 |[],r,i,b=>rfl
 |a::l,r,i,b=>by
  show foldI f (i+1) (l++r) (f b i a)=_;rw[mg f l r (i+1) (f b i a)];show foldI f (i+1+l.length) r _=foldI f (i+(l.length+1)) r _;rw[show i+1+l.length=i+(l.length+1) by omega];rfl
theorem lW (f:β→Nat→α→β) (l:List α) (k:Nat) (x:α) (h:l[k]? =some x) (b:β):foldI f 0 (l.take (k+1)) b=f (foldI f 0 (l.take k) b) k x:=by
 obtain⟨hk,rfl⟩:=Ql.1 h;rw[XJ hk,mg,Qu,Zh (QX hk),QR];rfl
structure aM where
 block:Int
 depth:Nat
 ao:Nat
deriving DecidableEq
def uH (dep:Nat) (ae:List (Nat×Int)):List aM:=ae.flatMap fun sg=>List.replicate sg.1 ⟨sg.2,dep - sg.1.log2,0⟩
def bc (dep:Nat) (ae:List (Nat×Int)):List aM:=(List.range 256).map fun n=>(uH dep ae).getD (n/2^(8 - dep)) ⟨0,0,0⟩
def gL (l:List ak) (n:Nat):Nat:=l.countP fun c=>bY c.ax c.depth n
def dF (l:List ak):List Nat:=(List.range 256).map (gL l)
def abL (gone:List ak):Int→Option ay:=(gone.flatMap fun c=>c.blocks.zip c.ah).foldl (fun m p=>eM m p.1 p.2) (fun _=>none)
def bV (c:ak) (st:Option (Int→Option ay)) (i:Nat) (p:Int×ay):Option (Int→Option ay):=
 match st with
 |none=>none
 |some m=>
  if p.1=0 then some m
  else match m p.1 with
  |none=>none
  |some s=>if s=p.2∧s.next=c.blocks.getD (i+1) 0 then some (mX m p.1) else none
def IK (st:Option (Int→Option ay)) (c:ak):Option (Int→Option ay):=foldI (bV c) 0 (c.blocks.zip c.ah) st
def mu (gone ao:List ak):Option (Int→Option ay):=ao.foldl IK (some (abL gone))
def mr (gone ao:List ak):Bool:=(mu gone ao).isSome
def Bf (cs:List ak) (n:Nat):Option ak:=cs.find? fun c=>bY c.ax c.depth n
def kW (cs gone ao:List ak):Bool:=
 (gone.all fun c=>dz c&&decide (Bf cs c.ax=some c))&&ao.all dz&&decide (dF gone=dF ao)&&((dF ao).all fun k=>decide (k≤1))&&mr gone ao
def fE (cells:List aM) (i:Nat) (c:ak):List aM:=cells.mapIdx fun n x=>if bY c.ax c.depth n then⟨c.blocks.getD 0 0,c.depth,i+1⟩ else x
def cJ (cells:List aM) (ao:List ak):List aM:=foldI fE 0 ao cells
def dD (ao:List ak):List Int:=ao.flatMap (·.blocks)
def iY (gone ao:List ak):List Int:=gone.flatMap fun c=>c.blocks.filter fun x=> !((dD ao).contains x)
def jC (cells:List aM):Nat:=cells.foldl (fun m c=>max m c.depth) 0
def dS (dep:Nat) (cells:List aM):List Int:=(List.range (2^dep)).map fun slot=>(cells.getD (slot*2^(8 - dep)) ⟨0,0,0⟩).block
def kB (n:Nat):Nat:=(aR n).toNat
def qv (at_ wG bP:List Int) (i:Nat):Int:=
 if i<at_.length∧ !((bG bP i).contains 0)∧bG bP i=bG wG i then at_.getD i 0 else 0
def jF (at_ wG bP:List Int):List Int:=(List.range (kB bP.length)).map (qv at_ wG bP)
def dA (ag:List Int) (g:List Int) (i:Nat) (eL:Int):List Int:=if ag.getD i 0=0 then g++[eL] else g
structure qD where
 cells:List aM
 dep:Nat
 bP:List Int
 ag:List Int
 gone:List Int
def bt (dep:Nat) (ae:List (Nat×Int)) (at_:List Int) (gone ao:List ak):qD:=
 let cells:=cJ (bc dep ae) ao
 let d:=jC cells
 let bP:=dS d cells
 let ag:=jF at_ (expand ae) bP
 ⟨cells,d,bP,ag,foldI (dA ag) 0 at_ (iY gone ao)⟩
def qt (ag:List Int) (ao:List ak):Nat:=(ag++dD ao).count 0
def nn (dep:Nat) (p:Int×ay) (st:Int×aX):Int×aX:=
 if p.1=0 then
  let r:=st.2.put (encS ⟨dep,st.1,p.2.es⟩)
  (r.1,r.2.2)
 else(p.1,st.2)
def qh (s:aX) (c:ak):Int×aX:=(c.blocks.zip c.ah).foldr (nn c.depth) (0,s)
def sA (cells:List aM) (i:Nat) (at_:Int):List aM:=cells.map fun x=>if x.ao=i+1 then{x with block:=at_} else x
def bB (st:aX×List aM) (i:Nat) (c:ak):aX×List aM:=
 let r:=qh st.1 c
 (r.2,sA st.2 i r.1)
def dE (bP ag:List Int) (s:aX) (i:Nat):aX:=
 if i<ag.length then
  if ag.getD i 0=0 then
   let r:=s.put (encI 4 (bG bP i))
   (r.2.2.cM (3+i) r.1).2
  else(s.cM (3+i) (ag.getD i 0)).2
 else(s.cM (3+i) 0).2
def dN (s:aX) (l:List Int):aX:=l.foldl (fun s x=>(s.count x.toNat false).2) s
def BQ (s:aX) (p:qD) (ao:List ak):aX:=
 let r:=foldI bB 0 ao (dN s p.gone,p.cells)
 (List.range 5).foldl (dE (dS p.dep r.2) p.ag) r.1
def gO (s:aX) (l:List Int):Int:=s.room+(l.countP fun x=>s.ik x.toNat&&(s.t.get x.toNat==1):Nat)
def oV (s:aX) (dep:Nat) (ae:List (Nat×Int)) (at_:List Int) (cs gone ao:List ak):Int×aX:=
 if kW cs gone ao=false then(2,s)
 else
  let p:=bt dep ae at_ gone ao
  if gO s p.gone<qt p.ag ao then(90,s) else(0,BQ s p ao)
end
section
open Go.RowKit
attribute [local go_sem] Oper.semAt_some
variable {w' : Wo} {S : Nat → Prop} {v : Va} {cs : List ak} {g k : Nat} {c : ak}
structure mI (w:Wo) (S:Nat→Prop) (v:Va) (cs:List ak):Prop where
 ex:∃ms:List (ak×Va×Va),Sl w w.heap.size 4 v ms.length (ms.flatMap Nz)∧Ap S v∧(∀m∈ms,jw w S (chA m) m.1)∧ms.map Prod.fst=cs
theorem mI.on {w:Wo} (h:mI w S v cs) (hb:Below w.heap.size w w'):mI w' S v cs:=by
 obtain⟨ms,h1,h2,h3,h4⟩:=h.ex;exact⟨ms,Sl.more (Sl.below h1 hb) hb.size,h2,fun m hm=>(h3 m hm).on hb,h4⟩
theorem mI.aL {w:Wo} {T:Nat→Prop} (h:mI w S v cs) (hc:aG T w w') (hT:∀x,T x→S x):mI w' S v cs:=by
 obtain⟨ms,h1,h2,h3,h4⟩:=h.ex;exact⟨ms,Sl.more (Sl.aL h1 hc (Qg _) (h2.mono hT)) hc.size,h2,fun m hm=>(h3 m hm).aL hc hT,h4⟩
theorem mI.form {w:Wo} (h:mI w S v cs):∃A c,v= .slice A cs.length c:=by
 obtain⟨ms,h1,-,-,h4⟩:=h.ex;obtain⟨A,c,hv,-,-⟩:=h1.form;exact⟨A,c,by rw[hv,←h4,Qq]⟩
theorem eN.ls {w:Wo} {base:Nat} (h:eN w S base v cs) (hS:∀x,S x→x<base):mI w S v cs:=by
 obtain⟨ms,h1,h2,h3⟩:=h.ex;refine⟨ms,Sl.bU h1,fun b o n c hn e hx=> ?_,fun m hm=>(h2 m hm).mono (fun x hx=>Or.inl hx),h3⟩;subst e;have h5:=Xr h1;rcases h1.2 with⟨h6,-⟩|⟨g,cap,cur,h6,hg,-⟩
 ·cases h6
 ·cases h6
  exact absurd (hS _ hx) (XV.2 hg)
theorem VO:∀(ms:List (ak×Va×Va)) (k:Nat) (m:ak×Va×Va),ms[k]? =some m→∀j,j<4→(ms.flatMap Nz)[k*4+j]? =(Nz m)[j]? :=by
 intro ms;induction ms with
 |nil=>intro k p h;simp at h
 |cons a r ih=>
  intro k p h j hj;cases k with
  |zero=>
   simp at h;subst h;rw[Xz,QR,QH,QN (by simpa[Nz] using hj)]
  |succ k=>
   have:=ih k p (by simpa using h) j hj;rw[QH,QM (by simp[Nz];omega),←this];congr 1
   simp[Nz];omega
theorem mI.cells {w:Wo} (h:mI w S v cs) (hk:cs[k]? =some c):
  ∃b o cap bv sv,v= .slice (some ⟨b,o,none⟩) cs.length cap∧b<w.heap.size∧w.cell? ⟨b,o+k*4,none⟩=some (.int .i64 c.ax)∧w.cell? ⟨b,o+k*4+1,none⟩=some (.int .i64 c.depth)∧w.cell? ⟨b,o+k*4+2,none⟩=some bv∧w.cell? ⟨b,o+k*4+3,none⟩=some sv∧jw w S (.agg #[.int .i64 c.ax,.int .i64 c.depth,bv,sv]) c:=by
 obtain⟨ms,h1,-,h3,h4⟩:=h.ex;have hkm:∃m,ms[k]? =some m∧m.1=c:=by
  rw[←h4,Qt] at hk;cases hm:ms[k]? with
  |none=>rw[hm] at hk;cases hk
  |some m=>rw[hm] at hk;exact⟨m,rfl,by simpa using hk⟩
 obtain⟨m,hm,rfl⟩:=hkm;obtain⟨bQ,-⟩:=Ql.1 hm;obtain⟨b,o,cap,hv,-,-,hr⟩:=h1.row (QO (Qp _) bQ);have hg:=fun j hj=>VO ms k m hm j hj
 have hc:∀j u,j<4→(Nz m)[j]? =some u→w.cell? ⟨b,o+(k*4+j),none⟩=some u:=fun j u hj hu=>hr.2 (k*4+j) u (by rw[hg j hj,hu])
 refine⟨b,o,cap,m.2.1,m.2.2,?_,hr.1,?_,?_,?_,?_,h3 m (Qi hm)⟩
 ·rw[hv,←h4,Qq]
 ·exact hc 0 _ (by decide) rfl
 ·exact hc 1 _ (by decide) rfl
 ·exact hc 2 _ (by decide) rfl
 ·exact hc 3 _ (by decide) rfl
theorem mI.lG {w:Wo} (h:mI w S v cs) (hk:cs[k]? =some c):
  ∃(b o cap:Nat) (A1 A2:Option Addr) (m1 c1 m2 c2:Nat),v= .slice (some ⟨b,o,none⟩) cs.length cap∧b<w.heap.size∧w.cell? ⟨b,o+k*4,none⟩=some (.int .i64 c.ax)∧w.cell? ⟨b,o+k*4+1,none⟩=some (.int .i64 c.depth)∧w.cell? ⟨b,o+k*4+2,none⟩=some (.slice A1 m1 c1)∧w.cell? ⟨b,o+k*4+3,none⟩=some (.slice A2 m2 c2)∧jw w S (.agg #[.int .i64 c.ax,.int .i64 c.depth,.slice A1 m1 c1,.slice A2 m2 c2]) c:=by
 obtain⟨b,o,cap,bv,sv,h1,h2,h3,h4,h5,h6,h7⟩:=h.cells hk;obtain⟨NC,tZ,ps,he,g1,-,g2,-⟩:=h7.ex;obtain⟨rfl,rfl⟩:bv=NC∧sv=tZ :=by simpa using he
 obtain⟨A1,c1,rfl,-,-⟩:=g1.form;obtain⟨A2,c2,rfl⟩:=g2.s.form;exact⟨b,o,cap,A1,A2,_,c1,_,c2,h1,h2,h3,h4,h5,h6,h7⟩
section
variable {P : Program} {ops : Array Oper} {w : Wo} {Q : Exit → Act → Wo → Prop} {a : Act} {rest : List Oper} {dst : Option Tmp} {x : Operand} {t ty : TypeId} {pos : String} {after : Array Edge}
theorem wl_alloc_arr {d:Tmp} (cs:Array Va) (hi:(P.info? t).map (fun i=>(i.zero,i.size))=some (some (.agg cs),cs.size))
  (hk:wpList P ops Q rest (a.put (some d) (.pointer (some ⟨w.heap.size,0,none⟩))) (w.alloc (.cells cs t))):
  wpList P ops Q (⟨some d,.alloc t,ty,pos,after,none⟩::rest) a w:=by
 refine wpList_plain rfl fun K hK=> ?_
 have ha:(Instr.alloc t true (.tuple #[])).run P w= .ok (.pointer (some ⟨w.heap.size,0,none⟩)) (w.alloc (.cells cs t)):=by
  have oI:=(zero_of_info hi).1;simp[Instr.alloc,oI,newVar,newRow,Result.andThen,Value.cells]
 unfold Oper.wp;simp[execOp,ha,Result.andThen];exact hK _ _ hk
theorem fN {w:Wo} {t:TypeId} {cs:List Va} {n:Nat} {e:TypeId} (h:aq w g t cs) (hu:P.underlying t=some (.array n e)) (hi:(P.info? t).map (·.size)=some cs.length):
  (Instr.loadAt t (.pointer (some ⟨g,0,none⟩))).run P w= .ok (.agg cs.toArray) w:=by
 simp only[Instr.loadAt,Instr.sureAddr,Sem.run_bind,Sem.run_pure,Result.andThen];exact run_loadVar_row w g t t cs.toArray (0,0) _ h hu rfl (by rw[hi,QW])
theorem jo {w:Wo} {t:TypeId} {cs new:List Va} (h:aq w g t cs) (hi:(P.info? t).map (·.size)=some new.length) (hl:cs.length=new.length) (h1:∀u∈new,u.oneCell' =true):
  (Instr.storeAt t (.pointer (some ⟨g,0,none⟩)) (.agg new.toArray)).run P w= .ok () (w.setRow g new.toArray):=by
 simp only[Instr.storeAt,Instr.sureAddr,Sem.run_bind,Sem.run_pure,Result.andThen];exact run_storeVar_row w g t t cs.toArray new.toArray h (by rw[hi,QW]) (by simp[hl]) (all_oneCell_toArray h1)
theorem wl_store {y:Operand} (p v:Va) (hx:a.eval x=p) (hy:a.eval y=v) (h:(Instr.storeAt t p v).run P w= .ok () w') (hk:wpList P ops Q rest (a.put dst undef) w'):
  wpList P ops Q (⟨dst,.store t x y,ty,pos,after,none⟩::rest) a w:=
 wpList_plain rfl fun K hK=>by
  unfold Oper.wp;rw[←hx,←hy] at h;simp[execOp,h,Result.andThen];exact hK _ _ hk
end
theorem lZ {w:Wo} {t:TypeId} {cs:List Va} (h:aq w g t cs) (new:List Va):aq (w.setRow g new.toArray) g t new:=by
 unfold aq at h⊢;unfold World.setRow;simp only[Array.getElem?_modify,h];simp
theorem below_setRow {B:Nat} {w:Wo} (h:Below B w w') (hg:B≤g) (c:Array Va):Below B w (w'.setRow g c):=
 ⟨h.os,h.tape,h.output,by show _≤(Array.modify _ _ _).size;rw[Array.size_modify];exact h.size,fun k hk=>by
  show(Array.modify _ _ _)[k]? =_;rw[Array.getElem?_modify,Xd (by omega)];exact h.block k hk⟩
theorem ahN:(prog.info? 247).map (fun i=>(i.zero,i.size))=some (some (.agg (List.replicate 256 (Value.int .i64 0)).toArray),(List.replicate 256 (Value.int .i64 0)).toArray.size):=by kernel_rfl
theorem uI:(prog.info? 247).map (·.size)=some 256:=by kernel_rfl
def Fb (cs:List ak) (n k m:Nat):Nat:=if m<n then gL cs m else if m=n then gL (cs.take k) n else 0
def gi (cs:List ak) (n k:Nat):List Va:=(List.range 256).map fun m=> .int .i64 (Fb cs n k m:Nat)
theorem nK (cs:List ak) (n k:Nat):(gi cs n k).length=256:=by simp[gi]
theorem CY (cs:List ak) (n k:Nat) (hn:n<256):(gi cs n k)[n]? =some (.int .i64 (gL (cs.take k) n:Nat)):=by
 unfold gi;rw[Qt,List.getElem?_range hn];simp[Fb]
theorem vT (cs:List ak) (k n:Nat) (c:ak) (h:cs[k]? =some c):gL (cs.take (k+1)) n=gL (cs.take k) n+if bY c.ax c.depth n then 1 else 0:=by
 unfold gL;rw[aA cs k c h,List.countP_append,List.countP_singleton]
theorem yM (cs:List ak) (n k:Nat) (hn:n<256):(gi cs n k).set n (.int .i64 (gL (cs.take (k+1)) n:Nat))=gi cs n (k+1):=by
 apply List.ext_getElem?;intro j;unfold gi;rw[List.getElem?_set];by_cases hj:n=j
 ·subst hj;simp[hn,Fb]
 ·rw[Xd hj,Qt,Qt];by_cases hj2:j<256
  ·rw[List.getElem?_range hj2];simp[Fb,Xm hj]
  ·rw[QQ (by simpa using hj2)];rfl
theorem Me (cs:List ak) (n:Nat):gi cs n cs.length=gi cs (n+1) 0:=by
 unfold gi;refine Zj fun m _=> ?_
 unfold Fb;rw[XU];by_cases h1:m<n
 ·rw[Xo h1,Xo (by omega)]
 ·by_cases h2:m=n
  ·rw[Xd h1,Xo h2,Xo (by omega),h2]
  ·rw[Xd h1,Xd h2,Xd (by omega)];split
   ·simp[gL]
   ·rfl
theorem Md (cs:List ak):gi cs 0 0=List.replicate 256 (Value.int .i64 0):=by
 refine List.eq_replicate_iff.2 ⟨nK _ _ _,fun b hb=> ?_⟩;unfold gi at hb;obtain⟨m,-,rfl⟩:=QU.1 hb;unfold Fb;split
 ·rename_i h;exact absurd h (Nat.not_lt_zero _)
 ·split<;>simp[gL]
theorem Mf (cs:List ak):gi cs 256 0=(dF cs).map fun k:Nat=>Value.int .i64 k:=by
 unfold gi dF;rw[List.map_map];refine Zj fun m hm=> ?_
 have:=Zm.1 hm;unfold Fb;rw[Xo this];rfl
structure UZ (w:Wo) (cs:List ak) (rb ob:Nat) (n k:Nat) (wr:Wo):Prop where
 own:aq wr ob 247 (gi cs n k)
 res:aq wr rb 247 (List.replicate 256 (Value.int .i64 0))
 low:Below w.heap.size w wr
theorem Sf (cs:List ak) (n k:Nat):∀u∈gi cs n k,u.oneCell' =true:=by
 intro u hu;unfold gi at hu;obtain⟨m,-,rfl⟩:=QU.1 hu;rfl
theorem sV (w:Wo) (S:Nat→Prop) (v:Va) (cs:List ak) (h:mI w S v cs) (hl:cs.length≤10000) (hc:∀c∈cs,c.ax<256∧c.depth≤8):
  Calls prog 143 #[v] w fun r w' =>r= .returned (.agg ((dF cs).map fun k:Nat=>Value.int .i64 k).toArray)∧Below w.heap.size w w' :=by
 obtain⟨A,cap,rfl⟩:=h.form;obtain⟨L,hL⟩:=eX cs.length;rw[←hL];obtain⟨Z,hZ⟩:=eX ((List.replicate 256 (Value.int .i64 0)).toArray);have HZi:Af ((prog.info? 247).map (fun i=>(i.zero,i.size))=some (some (.agg Z),Z.size)):=by rw[hZ];exact ahN
 obtain⟨W0,aY⟩:=eX (w.alloc (.cells Z 247));have X0:aq W0 w.heap.size 247 (List.replicate 256 (Value.int .i64 0)):=by rw[aY,hZ];exact ar w _ _
 have B0:Below w.heap.size w W0:=by rw[aY];exact aF _ _
 obtain⟨W1,aW⟩:=eX (W0.alloc (.cells Z 247));have Y1:aq W1 W0.heap.size 247 (List.replicate 256 (Value.int .i64 0)):=by rw[aW,hZ];exact ar W0 _ _
 have B1:Below W0.heap.size W0 W1:=by rw[aW];exact aF _ _
 obtain⟨rb,ft⟩:=eX w.heap.size;obtain⟨ob,Ty⟩:=eX W0.heap.size;have rj:Af (UZ w cs rb ob 0 0 W1):=⟨by rw[Md,Ty];exact Y1,by rw[ft];exact X0.on B1,B0.trans (B1.mono B0.size)⟩;have fq:Af (w.heap.size≤rb∧rb<ob):=⟨by rw[ft];exact Qg _,by rw[ft,Ty];exact X0.lt⟩;have HW:=kH aY.symm aW.symm ft.symm Ty.symm;have H:=aa h;have HC:=aa hc;have HL:=dK hL (by omega:L≤10000);obtain⟨T,hT⟩:=eX (((dF cs).map fun k:Nat=>Value.int .i64 k).toArray);rw[←hT];have HT:Af (T=(gi cs 256 0).toArray):=by show _=_;rw[hT,Mf]
 clear h hc hL hl hZ aY X0 B0 aW Y1 B1 ft Ty hT;go_enter func143,ntmps143;go_wp2_with(refine wl_alloc_arr Z HZi.o ?_;go_must(first|rw[HW.o.1,HW.o.2.2.1]|rw[HW.o.2.1,HW.o.2.2.2]));go_loopw [7] (fun iv wr=>∃n:Nat,iv= .int .i64 n∧Af (n≤256∧UZ w cs rb ob n 0 wr)) (fun iv _=>256 - (intOf iv).toNat)
 case atStart=>exact⟨0,rfl,Qp _,rj.o⟩
 case round=>
  obtain⟨n,rfl,HR⟩:=hrel;by_cases hn:n<256
  ·have n0:=Xh n;have n1:(n:Int)<256:=by omega
   have w1:wrap64 ((n:Int)+1)=(n:Int)+1:=by unfold wrap64;omega
   have Hn:=dK hn w1;have HS:=aa HR.o.2;clear HR hn w1;go_wp2_with fail;go_loopw [12] (fun jv wr=>∃k:Nat,jv= .int .i64 k∧Af (k≤L∧UZ w cs rb ob n k wr)) (fun jv _=>L - (intOf jv).toNat)
   case atStart=>exact⟨0,rfl,Qp _,HS.o⟩
   case round=>
    obtain⟨k,rfl,HR⟩:=hrel;by_cases hk:k<L
    ·obtain⟨c,jV⟩:∃c,cs[k]? =some c:=⟨_,Qf (by rw[←HL.o.1];exact hk)⟩;obtain⟨b,o,rr,A1,A2,m1,c1,m2,c2,hv,bO,z0,z1,z2,z3,-⟩:=H.o.lG jV;obtain rfl:A=some ⟨b,o,none⟩:=by injection hv
     have AB:=HC.o c (Qi jV);have aU:=HR.o.2.low;have y0:=(aU.cell (p:=⟨b,o+k*4,none⟩) bO).trans z0;have y1:=(aU.cell (p:=⟨b,o+k*4+1,none⟩) bO).trans z1;have y2:=(aU.cell (p:=⟨b,o+k*4+2,none⟩) bO).trans z2;have y3:=(aU.cell (p:=⟨b,o+k*4+3,none⟩) bO).trans z3;obtain⟨fr,eo⟩:=eX c.ax;obtain⟨dp,eK⟩:=eX c.depth;obtain⟨R,hR⟩:=eX (bY c.ax c.depth n);rw[←eo] at y0;rw[←eK] at y1;obtain⟨W5,j6,X5,b5⟩:=nW wr [.int .i64 fr,.int .i64 dp,.slice A1 m1 c1,.slice A2 m2 c2] 50;have HI:=tV W5 c.ax c.depth n AB.1 AB.2 Hn.o.1 (.slice A1 m1 c1) (.slice A2 m2 c2);rw[←hR,←eo,←eK] at HI;have HI:=aa HI;obtain⟨gx,pZ⟩:=eX wr.heap.size;rw[←pZ] at X5;obtain⟨x0,x1,x2,x3⟩:=mm X5;have zb:=dK j6.symm pZ.symm;have mU:=aa b5;obtain⟨q,hq⟩:=eX (gL (cs.take k) n);have hqk:q≤k:=by rw[hq];unfold gL;exact Qh List.countP_le_length (by rw[Qu];exact Nat.min_le_left _ _)
     have wq:wrap64 ((q:Int)+1)=(q:Int)+1:=by have:=HL.o.2;unfold wrap64;omega
     have HX:=Ba jV hk hR hq wq;have cU:=aa HR.o.2;have HOn:Af (∀W,Below W5.heap.size W5 W→W.cell? ⟨ob,n,none⟩=some (.int .i64 q)∧W.frozen? ⟨ob,n,none⟩=false):=fun W hW=>by have h1:=(cU.o.own.on mU.o).on hW;exact⟨h1.cell (by rw[CY cs n k Hn.o.1,←HX.o.2.2.2.1]),h1.free n⟩
     obtain⟨u1,u2,u3⟩:=bR hk HL.o.2 (by decide);have Hu:=aa u1;clear jV hv bO z0 z1 z2 z3 AB aU eo eK hR j6 X5 b5 pZ hq hqk wq HR hk u1;go_upto_region 8 with fail
     rw[zb.o.1,zb.o.2];clear y0 y1 y2 y3;cases R
     ·have HT:Af (gi cs n k=gi cs n (k+1)):=by show _=_;rw[←yM cs n k Hn.o.1,vT cs k n c HX.o.1,←HX.o.2.2.1];have h1:=CY cs n k Hn.o.1;obtain⟨h2,h3⟩:=Ql.1 h1;show gi cs n k=(gi cs n k).set n (.int .i64 ((gL (cs.take k) n+0:Nat):Int));rw[XC,←h3,List.set_getElem_self]
      go_wp2_with(go_at_call 140;go_must(refine HI.o.mono ?_);rintro e W6 ⟨rfl,b6⟩;have B6:=aa (mU.o.trans (b6.mono mU.o.size));clear b6);refine⟨⟨k+1,by first|rfl|(rw[Hu.o];rfl),HX.o.2.1,?_⟩,by first|exact al HX.o.2.1|(rw[Hu.o];exact al HX.o.2.1)⟩;exact⟨by rw[←HT.o];exact cU.o.own.on B6.o,cU.o.res.on B6.o,cU.o.low.trans (B6.o.mono cU.o.low.size)⟩
     ·have HT:Af ((gi cs n k).set n (.int .i64 ((q:Int)+1))=gi cs n (k+1)):=by show _=_;rw[←yM cs n k Hn.o.1,vT cs k n c HX.o.1,←HX.o.2.2.1,←HX.o.2.2.2.1];rfl
      go_wp2_with(go_at_call 140;go_must(refine HI.o.mono ?_);rintro e W6 ⟨rfl,b6⟩;have o6:=(HOn.o W6 b6).1;have f6:=(HOn.o W6 b6).2;have B6:=aa (mU.o.trans (b6.mono mU.o.size));clear b6);refine⟨⟨k+1,by first|rfl|(rw[Hu.o];rfl),HX.o.2.1,?_⟩,by first|exact al HX.o.2.1|(rw[Hu.o];exact al HX.o.2.1)⟩;have h8:=(cU.o.own.on B6.o).set n (.int .i64 ((q:Int)+1));rw[HT.o] at h8;have hv:=HX.o.2.2.2.2
      try rw[hv]
      exact⟨h8,(cU.o.res.on B6.o).az (p:=⟨ob,n,none⟩) (XP fq.o.2) _,(cU.o.low.trans (B6.o.mono cU.o.low.size)).setCell (p:=⟨ob,n,none⟩) (Qh fq.o.1 (QX fq.o.2)) _⟩
    ·have cH:=QE HR.o.1 (QC hk);have HE:Af (UZ w cs rb ob (n+1) 0 wr):=by have h1:=HR.o.2;rw[cH,HL.o.1] at h1;exact⟨by rw[←Me];exact h1.own,h1.res,h1.low⟩
     subst cH;clear HR hk;go_wp2_with fail;exact⟨⟨n+1,by first|rfl|(rw[Hn.o.2];rfl),Hn.o.1,HE.o⟩,by first|exact al Hn.o.1|(rw[Hn.o.2];exact al Hn.o.1)⟩
  ·have cH:=QE HR.o.1 (QC hn);have HE:=aa HR.o.2;subst cH;have xF:=aa (fN (P:=prog) HE.o.own underlying247 (by rw[nK];exact uI));have HSt:=aa (jo (P:=prog) (new:=gi cs 256 0) HE.o.res (by rw[nK];exact uI) (by rw[nK];simp) (Sf cs 256 0));have oL:=lZ HE.o.res (gi cs 256 0);obtain⟨W9,ED⟩:=eX (wr.setRow rb (gi cs 256 0).toArray);have aU:=below_setRow HE.o.low fq.o.1 (gi cs 256 0).toArray;rw[←ED] at HSt oL aU;have On:=aa (fN (P:=prog) oL underlying247 (by rw[nK];exact uI));have NN:=aa aU;rw[←HT.o] at xF HSt On;clear HR hn oL ED aU;go_wp2_with(first
    |((with_reducible refine wl_load (.pointer (some ⟨ob,0,none⟩)) (.agg T) ?_ xF.o ?_);go_must((·rfl);skip))
    |((with_reducible refine wl_store (.pointer (some ⟨rb,0,none⟩)) (.agg T) ?_ ?_ HSt.o ?_);go_must((·rfl);(·rfl);skip)))
   refine bodyPost_ret (v:= .agg T) ?_ rfl ⟨rfl,NN.o⟩;refine rQ (a:=⟨rb,0,none⟩) rfl rfl ?_;have h1:=On.o;simpa[Instr.loadAt,Instr.sureAddr,Result.andThen] using h1
end
section
open Go.RowKit
attribute [local go_sem] Oper.semAt_some
variable {B base : Nat} {W w : Wo} {v : Va} {ls : List (Va × List Int)} {k : IntKind} {xs : List Int}
theorem aca:(prog.info? 34).map (fun i=>(i.zero,i.size,i.bytes))=some (some (.slice none 0 0),1,24):=by kernel_rfl
structure EG (base:Nat) (W:Wo) (v:Va) (ls:List (Va×List Int)):Prop where
 row:W.ownsRow base 34 1 v ls.length (ls.map Prod.fst)
 ns:∀p∈ls,Ns W base .i64 p.1 p.2
theorem EG.form (h:EG base W v ls):∃A c,v= .slice A ls.length c:=by
 rcases h.row.2 with⟨rfl,h0⟩|⟨g,cap,cur,rfl,_⟩
 ·rw[h0];exact⟨_,_,rfl⟩
 ·exact⟨_,_,rfl⟩
theorem EG.on {W' :Wo} (h:EG base W v ls) (hb:Below W.heap.size W W') (hB:base≤W.heap.size):EG base W' v ls:=
 ⟨aS h.row hb,fun p hp=>Sl.acu (h.ns p hp) hb hB⟩
theorem EG.nsL (h:EG base W v ls) (hB:base≤W.heap.size):NsL W v ls:=by
 refine⟨?_,fun p hp=>(h.ns p hp).more hB⟩;have:=Sl.bU h.row;exact this
theorem Vx (base:Nat) (W:Wo):EG base W (.slice none 0 0) []:=⟨World.ownsRow_nil _ _ _ _,fun p hp=>by cases hp⟩
theorem abY (h:Ns w B k v xs):v.oneCell' =true:=by
 obtain⟨A,c,rfl,-,-⟩:=h.form;rfl
theorem xV (w:Wo) (base:Nat) (v:Va) (ls:List (Va×List Int)) (h:EG base w v ls) (vx:Va) (ms:List (Va×List Int)) (B:Nat) (hx:Sl w B 1 vx ms.length (ms.map Prod.fst)) (SB:∀p∈ms,Ns w base .i64 p.1 p.2) (hl:ls.length+ms.length≤100000) (hb:base≤w.heap.size) (ty:TypeId):
  ∃v' w',(Builtin.append_ #[251,251] ty #[v,vx]).run prog w= .ok v' w'∧EG base w' v' (ls++ms)∧w.grownBy w' v.ownBlock:=by
 obtain⟨v',w',h1,h2,h3,-⟩:=cy (P:=prog) w base 251 ty 34 _ 1 24 underlying251 aca rfl (by decide) v ls.length _ h.row vx ms.length _ hx (fun u hu=>by obtain⟨p,hp,rfl⟩:=QU.1 hu;exact abY (SB p hp)) (by unfold maxLen;omega) (by omega) hb
 have fg:=(Xj base w).grown h3 hb (fun j e=>(Xr h.row j e).1);refine⟨v',w',h1,⟨?_,fun p hp=> ?_⟩,h3⟩
 ·rw[Qo,QL];exact h2
 ·rcases Qz.1 hp with hp|hp
  ·exact(h.ns p hp).below fg
  ·exact(SB p hp).below fg
theorem sZ (w:Wo) (S:Nat→Prop) (v:Va) (cs:List ak) (h:mI w S v cs) (hl:cs.length≤10000):
  Calls prog 147 #[v] w fun r w' =>∃v' ls,r= .returned v'∧EG w.heap.size w' v' ls∧ls.map Prod.snd=cs.map (·.blocks)∧Below w.heap.size w w'∧∀p∈ls,Ap S p.1:=by
 obtain⟨A,cap,rfl⟩:=h.form;obtain⟨n,hn⟩:=eX cs.length;rw[←hn];have H:=aa h;have HN:=dK hn (by omega:n≤10000);clear h hn hl;go_enter func147,ntmps147;go_wp2_with fail;go_loopw [8,3] (fun iv v3 wr=>∃(k:Nat) (ls:List (Va×List Int)),iv= .int .i64 k∧Af (k≤n∧EG w.heap.size wr v3 ls∧ls.map Prod.snd=(cs.take k).map (·.blocks)∧Below w.heap.size w wr∧∀p∈ls,Ap S p.1)) (fun iv _ _=>n - (intOf iv).toNat)
 case atStart=>exact⟨0,[],rfl,Qp _,Vx _ _,rfl,Xj _ _,fun p hp=>absurd hp QV⟩
 case round=>
  obtain⟨k,ls,rfl,HR⟩:=hrel;obtain⟨A3,c3,rfl⟩:=HR.o.2.1.form;by_cases hk:k<n
  ·obtain⟨c,hc⟩:∃c,cs[k]? =some c:=⟨_,Qf (by rw[←HN.o.1];exact hk)⟩;obtain⟨b,o,rr,A1,A2,m1,c1,m2,c2,hv,bO,z0,z1,z2,z3,kG⟩:=H.o.lG hc;obtain rfl:A=some ⟨b,o,none⟩:=by injection hv
   have y0:=(HR.o.2.2.2.1.cell (p:=⟨b,o+k*4,none⟩) bO).trans z0;have y1:=(HR.o.2.2.2.1.cell (p:=⟨b,o+k*4+1,none⟩) bO).trans z1;have y2:=(HR.o.2.2.2.1.cell (p:=⟨b,o+k*4+2,none⟩) bO).trans z2;have y3:=(HR.o.2.2.2.1.cell (p:=⟨b,o+k*4+3,none⟩) bO).trans z3;obtain⟨NC,tZ,ps,he,gZ,pt,-,-⟩:=kG.ex;obtain⟨rfl,rfl⟩: .slice A1 m1 c1=NC∧ .slice A2 m2 c2=tZ :=by simpa using he
   obtain⟨fr,eo⟩:=eX c.ax;obtain⟨dp,eK⟩:=eX c.depth;rw[←eo] at y0;rw[←eK] at y1;obtain⟨W1,aW,X1,b1⟩:=nW wr [.int .i64 fr,.int .i64 dp,.slice A1 m1 c1,.slice A2 m2 c2] 50;obtain⟨W2,cE,X2,b2⟩:=nW W1 [.slice A1 m1 c1] 34;have Be:=b1.trans (b2.mono b1.size);have x2:=X1.cell (j:=2) rfl;have pT:=Ns.below gZ (HR.o.2.2.2.1.trans (Be.mono HR.o.2.2.2.1.size));have HL2:=HR.o.2.1.on Be HR.o.2.2.2.1.size;have agt:ls.length=k:=by have:=XF List.length HR.o.2.2.1;rw[Qq,Qq,Qu] at this;have:=HN.o.1;omega
   have Up:=aa (xV W2 w.heap.size _ ls HL2 (.slice (some ⟨W1.heap.size,0,none⟩) 1 1) [(.slice A1 m1 c1,c.blocks)] _ (X2.sl (o:=0) (n:=1) (sz:=1) (c:=1) (by simp) (by decide) (by unfold maxLen;decide)) (fun p hp=>by rw[Qx] at hp;subst hp;exact pT) (by rw[agt];simp;have:=HN.o;omega) (Qh HR.o.2.2.2.1.size Be.size) 251);have HB:=aa (HR.o.2.2.2.1.trans (Be.mono HR.o.2.2.2.1.size));have HOw:=aa (fun j e=>(Xr HL2.row j e).1);obtain⟨gx,pZ⟩:=eX wr.heap.size;obtain⟨gy,ZW⟩:=eX W1.heap.size;rw[←pZ] at x2;rw[←ZW] at Up;have HW:=kH aW.symm cE.symm pZ.symm ZW.symm;have HX:=iJ hc hk HR.o.2.2.1;have an7:Af (∀p∈ls++[((.slice A1 m1 c1:Va),c.blocks)],Ap S p.1):=fun p hp=>by
    rcases Qz.1 hp with hp|hp
    ·exact HR.o.2.2.2.2 p hp
    ·rw[Qx.1 hp];exact pt
   have uk:=aa HB.o.size;obtain⟨u1,u2,u3⟩:=bR hk HN.o.2 (by decide);have Hu:=aa u1;generalize ls.length=nls at*;clear hv bO z0 z1 z2 z3 kG he gZ pt eo eK aW X1 b1 cE X2 b2 Be pT HL2 agt pZ ZW hc hk u1 HR;go_upto_region 5 with fail
   rw[HW.o.1,HW.o.2.2.1];clear y0 y1 y2 y3;go_wp2_with(at_builtin;rw[HW.o.2.1,HW.o.2.2.2];(with_reducible refine wl_append_run (os:= .tmp 12) (ox:= .tmp 15) Up.o ?_ ?_ ?_);go_must((·rfl);(·rfl);intro v' w' pt;have HA:=aa pt;clear pt));refine⟨⟨k+1,ls++[(.slice A1 m1 c1,c.blocks)],by first|rfl|(rw[Hu.o];rfl),HX.o.2.1,HA.o.1,?_,HB.o.grown HA.o.2 HB.o.size HOw.o,an7.o⟩,by first|exact al HX.o.2.1|(rw[Hu.o];exact al HX.o.2.1)⟩;rw[QL,HX.o.2.2,aA cs k c HX.o.1,QL];rfl
  ·have cH:=QE HR.o.1 (QC hk);have e1:cs.take k=cs:=Qj (by rw[cH,HN.o.1];exact Qg _);have HE:=kH HR.o.2.1 (by rw[HR.o.2.2.1,e1]:ls.map Prod.snd=cs.map (·.blocks)) HR.o.2.2.2.1 HR.o.2.2.2.2;subst cH;generalize ls.length=nls at*;clear HR hk e1;go_wp2_with fail;go_ret;exact⟨_,ls,rfl,HE.o.1,HE.o.2.1,HE.o.2.2.1,HE.o.2.2.2⟩
theorem abZ (h:Ns w B k v xs) (ha:Ap (fun x=>base≤x) v):Ns w base k v xs:=by
 obtain⟨h1,A,c,hv,h2,h3,h4,h5⟩:=h;refine⟨h1,A,c,hv,h2,h3,h4,fun hn=> ?_⟩;obtain⟨b,o,hA,hr⟩:=h5 hn;refine⟨b,o,hA,?_,hr.2⟩;exact Nat.lt_of_not_le (ha b o xs.length c hn (by rw[hv,hA]))
theorem mI.apart {S T:Nat→Prop} {cs:List ak} (h:mI w S v cs) (hT:∀x,T x→S x∨w.heap.size≤x):mI w T v cs:=by
 obtain⟨ms,h1,h2,h3,h4⟩:=h.ex;exact⟨ms,h1,Sl.apart h1 h2 hT,fun m hm=>(h3 m hm).apart hT,h4⟩
end
section
open Go.RowKit
attribute [local go_sem] Oper.semAt_some
variable {w : Wo} {B l sz : Nat} {v : Va} {xs : List Va} {o : Obj}
section
variable {F : Fence} {n : Nat} {P : Program}
theorem Dp {α:Type} {g:Operand} {ps:Array Tmp} {assign body:Code} {Q:Exit→Act→Wo→Prop} {a:Act} (ZI:F.round=none) (h1:1≤n) {gf:Nat} {lb:Array Va}
  (hg:a.eval g= .func (.func gf) #[] lb) (hFg:F.fn gf) (eg:∀args w,(callFunc gf args).run P w= .ok (.enter gf args) w) (lC:α→Array Va) (fc:∀x,(lC x).size=ps.size)
  (S:Nat→Prop) (hSl:∀x,S x→x<w.heap.size) (Ok:List α→α→Wo→Prop) (BA:List α→Prop) (I:List α→Wo→Prop) (h0:∀W,Below w.heap.size w W→I [] W)
  (hIp:∀pre A (l:Nat) (o o' :Obj),I pre A→A.heap[l]? =some o→o.isCells=false→w.heap.size≤l→I pre (A.putObj l o'))
  (hit:∀(l:Nat) (J:List α→Wo→Prop) (W:Wo),Below w.heap.size w W→(∀pre A,J pre A→I pre A)→
   (∀pre x W1,Ok pre x W1→J pre W1→YieldAt F (n - 1 - 1) P l (lC x) W1 fun e W' =>e= .returned (.bool true)∧J (pre++[x]) W'∧aG (fun k=>S k∨w.heap.size≤k∧k≤w.heap.size+1) W1 W')→J [] W→
   CallsIn F (n - 1) P gf (#[.func (.yield l) #[] #[]]++lb) W fun e W' =>(∃v,e= .returned v)∧∃pre,BA pre∧J pre W')
  (a₁:α→Wo→Act) (W₁:α→Wo→Wo) (hW₁:∀x W,Below W.heap.size W (W₁ x W))
  (lJ:∀(l:Nat) (x:α) (W:Wo) (K:Act→Wo→Prop),K (a₁ x W) (W₁ x W)→
   assign.wpIn (F.inRound l) (n - 1 - 1) P (Exit.then K (fun _ _ _=>False)) {tmps:=(ps.zip (lC x)).foldl (fun t (p,v)=>t.setIfInBounds p v) a.tmps,defers:=[]} W)
  (uM:∀(l:Nat) (pre:List α) (x:α) (W0:Wo) (o o' :Obj),Ok pre x W0→I pre W0→w.heap.size≤l→W0.heap[l]? =some o→o.isCells=false→w.heap.size≤W0.heap.size→
   body.wpIn (F.inRound l) (n - 1 - 1) P (fun e _ W' =>e= .normal∧aG (fun k=>S k∨W0.heap.size≤k) ((W₁ x W0).putObj l o') W'∧I (pre++[x]) W') (a₁ x W0) ((W₁ x W0).putObj l o'))
  (kV:∀(D:Nat) (W:Wo) (pre:List α),w.heap.size≤D→BA pre→I pre W→W.heap[D]? =some (.deferred (some []))→Q .normal {a with defers:={target:= .collected D,args:= #[]}::a.defers} W):
  (Code.rangeFunc g ps assign body).wpIn F n P Q a w:=by
 refine wpIn_rangeFunc fun fn Nj=> ?_
 rw[ZI];obtain⟨R,hR⟩:∃R:LoopState→Loop,R=fun st=>{state:=st,pending:=none,fn,tmps:=a.tmps,params:=ps,assign,body,defers:=w.heap.size}:=⟨_,rfl⟩
 obtain⟨W1,aW⟩:=eX ((w.alloc (.deferred (some []))).alloc (.loop (R .ready)));have e1:W1.heap[w.heap.size+1]? =some (.loop (R .ready)):=by rw[aW];exact cL w _ _
 have e0:W1.heap[w.heap.size]? =some (.deferred (some [])):=by rw[aW];exact dx w _ _
 have b1:Below w.heap.size w W1:=by rw[aW];exact(aF _ _).alloc (by simp) _
 refine⟨w.heap.size+1,[{target:= .collected w.heap.size,args:= #[]}],W1,{target:= .fn (.func gf) lb,args:= #[.func (.yield (w.heap.size+1)) #[] #[]]},W1,gf,#[.func (.yield (w.heap.size+1)) #[] #[]]++lb,W1,?_,?_,?_,?_,fun _=>h1,?_⟩
 ·rw[aW,hR];exact run_enterLoop_outer _ _ _ _ _
 ·simp only[resolve,hg]
  simp[go_sem]
 ·intro f' tD
  simp[Target.leads] at tD;subst tD;exact hFg
 ·simp[invoke,go_sem,eg]
 refine(hit (w.heap.size+1) (fun pre W=>I pre W∧W.heap[w.heap.size+1]? =some (.loop (R .ready))∧W.heap[w.heap.size]? =some (.deferred (some []))) W1 b1 (fun _ _ h=>h.1) ?_ ⟨h0 W1 b1,e1,e0⟩).mono ?_
 ·rintro pre x W0 aaZ ⟨i0,l0,d0⟩
  have EW:=(Qy.1 l0).1;have aa9:=(Qy.1 d0).1;have hy:=run_yield (P:=P) (args:=lC x) l0 (by rw[hR];exact fc _)
  rw[hR] at hy;have Is:=hW₁ x W0;have l:=(Is.block _ EW).trans l0;have d:=(Is.block _ aa9).trans d0;have aJ:=(Qy.1 l).1;have Nl:=(Qy.1 d).1;refine⟨fn,_,assign,body,hy,roundIn_of_wpIn Nj (lJ _ x W0 _ ⟨_,run_beginRound l (by rw[hR]),?_⟩)⟩;have l2:((W₁ x W0).putObj (w.heap.size+1) (.loop {R .ready with state:= .busy})).heap[w.heap.size+1]? =some (.loop {R .ready with state:= .busy}):=World.putObj_heap_same aJ;have d2:((W₁ x W0).putObj (w.heap.size+1) (.loop {R .ready with state:= .busy})).heap[w.heap.size]? =some (.deferred (some [])):=(World.putObj_heap_other (by omega)).trans d;refine wpIn_mono (uM _ pre x W0 _ _ aaZ i0 (Q0 _) l0 rfl (by omega)) ?_;rintro e a3 W3 ⟨rfl,mG,ZU⟩;have l3:=(mG.block (w.heap.size+1) (by rw[World.putObj_size];exact aJ) (fun h=>h.elim (fun h=>absurd (hSl _ h) (by omega)) (fun h=>by omega))).trans l2
  have d3:=(mG.block w.heap.size (by rw[World.putObj_size];exact Nl) (fun h=>h.elim (fun h=>absurd (hSl _ h) (by omega)) (fun h=>by omega))).trans d2
  refine⟨_,_,run_endRound none l3,rfl,⟨hIp _ _ _ _ _ ZU l3 rfl (Q0 _),?_,(World.putObj_heap_other (by omega)).trans d3⟩,?_⟩
  ·rw[World.putObj_heap_same (Qy.1 l3).1,hR]
   rfl
  ·refine⟨mG.os.trans Is.os,mG.tape.trans Is.tape,mG.output.trans Is.output,by rw[World.putObj_size];have h5:=mG.size;rw[World.putObj_size] at h5;exact Qh Is.size h5,fun k hk hn=> ?_⟩
   have bQ:k≠w.heap.size+1:=fun e=>hn (.inr (by omega))
   rw[World.putObj_heap_other bQ,mG.block k (by rw[World.putObj_size];exact Qn hk Is.size) (fun h=>h.elim (fun h=>hn (.inl h)) (fun h=>by omega)),World.putObj_heap_other bQ,Is.block k hk]
 ·rintro e W2 ⟨⟨v,rfl⟩,pre,hd,i,l,d⟩
  have he:=run_endLoop (P:=P) l (by rw[hR];simp)
  have hp:(R .ready).pending=none:=by rw[hR]
  rw[hp] at he;exact⟨none,_,he,kV _ _ _ (Qg _) hd (hIp _ _ _ _ _ i l rfl (Q0 _)) ((World.putObj_heap_other (by omega)).trans d)⟩
end
theorem abO {n:Nat} (h:Sl w B sz v n xs) (cz:0<sz) (hl:w.heap[l]? =some o) (hc:o.isCells=false):Ap (fun x=>x=l) v:=fun b o' n' c' hn e hb=>by
 obtain⟨A,c,hv,-,-⟩:=h.form;rw[hv] at e;injection e with e1 e2 e3
 subst e2;obtain⟨b2,o2,c2,AO,-,-,hr⟩:=h.row hn;rw[hv] at AO;injection AO with f1 f2 f3
 rw[e1] at f1;injection f1 with f1
 injection f1 with f1 f4
 subst f1;have hlen:0<xs.length:=by rw[h.1];exact Nat.mul_pos hn cz
 have h1:=hr.2 0 (xs[0]) (Qf hlen);have EB :=hb;subst EB;unfold World.cell? at h1
 cases o with
 |cells cs e fz=>simp[Obj.isCells] at hc
 |_=>simp[hl] at h1
theorem pF {n:Nat} (h:Sl w B sz v n xs) (hB:B≤w.heap.size) (cz:0<sz) (hl:w.heap[l]? =some o) (hc:o.isCells=false) (o' :Obj):Sl (w.putObj l o') B sz v n xs:=
 Sl.aL h (fY (fun x=>x=l) w l o' rfl) hB (abO h cz hl hc)
theorem cR.putObj {I:bF} {s:aX} (h:cR w I s) (hl:w.heap[l]? =some o) (hc:o.isCells=false) (hS:¬BS I l) (o' :Obj):cR (w.putObj l o') I s:=by
 obtain⟨pv,dv,ps,uf⟩:=h.cells;have q:aG (fun x=>x=l) w (w.putObj l o'):=fY _ _ _ _ rfl;have hn:∀x,BS I x→¬(x=l):=fun x hx e=>hS (e▸hx)
 have cz:(w.putObj l o').heap.size=w.heap.size:=World.putObj_size;refine⟨⟨pv,dv,ps,uf.own.aL q (hn _ (.inl rfl)),?_,uf.ed,?_,uf.fT,uf.jg.aL q (hn _ (.inr (.inr (.inr (.inr (.inr (.inr (.inr rfl)))))))),⟨uf.kz.1,fun i=> ?_⟩⟩,?_,h.fh.aL q (hn _ (.inr (.inr (.inr (.inl rfl))))) (hn _ (.inr (.inr (.inr (.inr (.inl rfl)))))) (hn _ (.inr (.inr (.inr (.inr (.inr (.inl rfl))))))),h.pick.aL q (hn _ (.inr (.inr (.inr (.inr (.inr (.inr (.inl rfl)))))))),h.mf,h.ok⟩
 ·rw[cz];exact pF uf.ag (Qg _) (by decide) hl hc o'
 ·rw[cz];exact pF uf.au (Qg _) (by decide) hl hc o'
 ·refine(uf.kz.2 i).imp id fun ⟨g,c,data,h1,h2,h3,h4,h5⟩=>⟨g,c,data,h1,h2,⟨?_,h3.2⟩,h4,h5⟩
  rw[cz];exact pF h3.1 (Qg _) (by decide) hl hc o'
 ·exact{h.dM with own:=h.dM.own.aL q (hn _ (.inr (.inl rfl))),eP:=h.dM.eP.aL q (hn _ (.inr (.inr (.inl rfl))))}
theorem Mr (w:Wo) (A:Option Addr) (m c:Nat):Calls prog 227 #[.slice A m c] w fun e w' =>e= .returned (.func (.func 250) #[] #[.pointer (some ⟨w.heap.size,0,none⟩)])∧w' =w.alloc (.cells #[.slice A m c] 48):=by
 go_enter func227,ntmps227;go_wp2_with fail;go_ret;exact⟨rfl,rfl⟩
structure ry where
 i:Nat
 sh:ay
 A:Option Addr
 n:Nat
 c:Nat
def IP (x:ry):Array Va:= #[.int .i64 x.i,.agg #[.int .u8 x.sh.depth,.int .u32 x.sh.next,.slice x.A x.n x.c]]
structure Ow (S:Nat→Prop) (ps:List (ay×Va)) (pre:List ry) (x:ry) (W:Wo):Prop where
 at_:x.i+pre.length+1=ps.length
 it:ps[x.i]? =some (x.sh,.slice x.A x.n x.c)
 ok:pC x.sh
 es:Es W W.heap.size (.slice x.A x.n x.c) x.sh.es
 ap:Ap S (.slice x.A x.n x.c)
theorem Ow.on {S:Nat→Prop} {ps:List (ay×Va)} {pre:List ry} {x:ry} {A C:Wo} (h:Ow S ps pre x A) (hb:Below A.heap.size A C):Ow S ps pre x C:=⟨h.at_,h.it,h.ok,gA h.es hb,h.ap⟩
theorem Sq (n:Nat) (hn:1≤n) (l Bx:Nat) (A:Option Addr) (N c:Nat) (ps:List (ay×Va)) (S:Nat→Prop) (W:Wo) (aH:W.cell? ⟨Bx,0,none⟩=some (.slice A N c)) (Nx:Bx<W.heap.size) (j8:¬S Bx) (hs:iP W S (.slice A N c) ps) (hN:N=ps.length) (hl:N≤10000)
  (J:List ry→Wo→Prop) (hY:∀pre x W1,Ow S ps pre x W1→J pre W1→YieldAt Fence.wide (n - 1) prog l (IP x) W1 fun e W' =>e= .returned (.bool true)∧J (pre++[x]) W'∧aG S W1 W') (h0:J [] W):
  CallsIn Fence.wide n prog 250 #[.func (.yield l) #[] #[],.pointer (some ⟨Bx,0,none⟩)] W fun e W' =>(∃v,e= .returned v)∧∃pre:List ry,pre.length=ps.length∧J pre W' :=by
 refine callsIn_of_wp func250 rfl trivial ?_ rfl;simp only[ntmps250,QW,QF,Xq,Nat.reduceAdd,Nat.reduceSub,Xv,Xw,Xx,Xy,QZ,List.cons_append];have HS:=kH aH Nx hs h0;have HY:=aa hY;have HB:=iJ j8 hN hl;have w0:wrap64 ((N:Int) - 1)=(N:Int) - 1:=by unfold wrap64;omega
 have NH:=aa w0;clear hY h0 hs Nx j8 hN hl w0
 gi_wp2
 clear aH
 gi_loopw [3] (fun i wr=>∃pre:List ry,i= .int .i64 ((N:Int) - 1 - pre.length)∧Af (pre.length≤N∧wr.cell? ⟨Bx,0,none⟩=some (.slice A N c)∧Bx<wr.heap.size∧iP wr S (.slice A N c) ps∧J pre wr)) (fun i _=>(intOf i+1).toNat)
 case atStart=>exact⟨[],by rw[NH.o];simp,Qp _,HS.o.1,HS.o.2.1,HS.o.2.2.1,HS.o.2.2.2⟩
 case round=>
  obtain⟨pre,rfl,HR⟩:=hrel;obtain⟨m,hm⟩:=eX pre.length;rw[←hm] at HR⊢;by_cases hk:m<N
  ·obtain⟨j,hj⟩:=eX (N - 1 - m)
   have e0:(N:Int) - 1 - m=(j:Int):=by omega
   have j0:=Xh j;have w1:wrap64 ((j:Int) - 1)=(j:Int) - 1:=by unfold wrap64;have:=HB.o.2.2;omega
   rw[e0];obtain⟨p,hp⟩:∃p,ps[j]? =some p:=⟨_,Qf (by rw[←HB.o.2.1];omega)⟩
   obtain⟨b,o,c',hv,bO,z0,z1,z2⟩:=HR.o.2.2.2.1.s.cells hp;injection hv with v1 v2 v3
   subst v1;have hj1:(j:Int)<N:=by omega
   have Wm:=Qi hp;have eE:=HR.o.2.2.2.1.s.es p Wm;have y0:=HR.o.2.1;obtain⟨sh,pv⟩:=p;obtain⟨Ae,ce,pY,-,-⟩:=Sl.form eE.1.1;have pY:pv= .slice Ae sh.es.length ce:=pY;subst pY;have yY:N≤c:=by
    obtain⟨A',c'',e,h1,-⟩:=Sl.form HR.o.2.2.2.1.s.sl;injection e with e1 e2 e3
    rw[e3,HB.o.2.1];exact h1
   have hy:=HY.o pre ⟨j,sh,Ae,sh.es.length,ce⟩ wr ⟨by rw[←hm];show j+m+1=_;rw[←HB.o.2.1];omega,hp,eE.2,eE.1,HR.o.2.2.2.1.e _ Wm⟩ HR.o.2.2.2.2
   have HYy:=aa hy;have HRr:=aa HR.o;have Hm:=dK hk hm;have El:=dK w1 hj;clear hp bO Wm eE hy HR hk hm e0 HS hj w1 v2 v3;unfold IP at HYy;dsimp only at z0 z1 z2 HYy;generalize sh.es.length=L at*
   gi_upto_region 3 with fail
   obtain⟨fn,tmps,assign,bd,hy,Nr⟩:=HYy.o
   gi_wp2
   refine Nr.mono ?_;rintro e W3 ⟨rfl,Nu,Nn⟩;have HJ3:=aa Nu;have HC3:=aa Nn;clear hy Nr Nu Nn y0 z0 z1 z2
   gi_wp2
   go_roundw
   case rel=>
    have hr:=HRr.o;refine⟨pre++[⟨j,sh,Ae,L,ce⟩],?_,?_,?_,?_,hr.2.2.2.1.aL HC3.o (fun _ h=>h),HJ3.o⟩
    ·rw[Qo,ZA,←Hm.o.2]
     have h1:=El.o.2;have h2:=Hm.o.1
     first
      |rw[show(N:Int) - 1 - ((m+1:Nat):Int)=(j:Int) - 1 by omega]
      |rw[El.o.1,show(N:Int) - 1 - ((m+1:Nat):Int)=(j:Int) - 1 by omega]
     first|rfl|rw[El.o.1]
    ·rw[Qo,ZA,←Hm.o.2];exact Hm.o.1
    ·exact(HC3.o.cell (p:=⟨Bx,0,none⟩) hr.2.2.1 HB.o.1).trans hr.2.1
    ·exact Qn hr.2.2.1 HC3.o.size
   case measure=>
    first
     |(show(((j:Int) - 1)+1).toNat<((j:Int)+1).toNat;omega)
     |(rw[El.o.1];show(((j:Int) - 1)+1).toNat<((j:Int)+1).toNat;omega)
  ·have hmN:=QE HR.o.1 (QC hk)
   have e0:(N:Int) - 1 - m= -1:=by omega
   rw[e0];have HJ:=aa HR.o.2.2.2.2;have HE:Af (pre.length=ps.length):=by show _=_;rw[←hm,hmN,HB.o.2.1]
   clear hk hm hmN e0 HS HR
   gi_wp2
   go_end0
   exact⟨⟨_,rfl⟩,pre,HE.o,HJ.o⟩
end
end Go.Proofs.YthgdhacopamklaaGreat

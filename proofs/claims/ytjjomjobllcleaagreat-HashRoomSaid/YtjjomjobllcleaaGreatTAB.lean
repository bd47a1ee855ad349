/- HashRoom, part 2 of 8: parts of its walks and laws, each true as it stands. -/
import Derived.Great.BuildSlice
import Derived.Test.YtjjomjobllcleaaGreatTAA
set_option maxHeartbeats 16000000
set_option maxRecDepth 100000
set_option linter.all false
namespace Go.Proofs.YtjjomjobllcleaaGreat
open Go.Proofs.Tryz
open List (replicate range)
open Go.RowKit Go.Shelf
attribute [local go_sem] Oper.semAt_some
section
variable{b c0 c1 cb f g0 g1 h0 h1 i mb nb nd np pb tb xb:Nat}{k:Bool}{W W3 W5 w wr:Wo}{u v vd vp x0 x1:Va}{T e:Fy}{au ag xs ys:Fr}{cs:Ox}
def Bl(x:fk):Nat:=x.pp.countP (λb=> !b)+x.pd.countP (λb=> !b)
def qX(l:List Bool)(i:Nat)(h:l[i]? =some false):(l.set i true).countP (λb=> !b)+1=l.countP (λb=> !b):=by
 induction l generalizing i with
 |nil=>simp at h
 |cons b r ih=>
  cases i with
  |zero=>
   simp at h;subst h;simp
  |succ i=>
   simp at h;have:=ih i h;rw[Qc,Qai,Qai];omega
def Ko{x:fk}(h:x.fU i=true)(hi:i<x.pp.length):x.pp[i]? =some false:=by
 unfold fk.fU at h;have hg:=bE x.pp i false hi;rw[Qf hi,<-hg];cases hb:x.pp.getD i false with
 |false=>rfl
 |true=>rw[hb] at h;simp at h
def Kn{x:fk}(h:x.gH i=true)(hi:i<x.pd.length):x.pd[i]? =some false:=by
 unfold fk.gH at h;have hg:=bE x.pd i false hi;rw[Qf hi,<-hg];cases hb:x.pd.getD i false with
 |false=>rfl
 |true=>rw[hb] at h;simp at h
def CM{x:fk}(h:x.fst=some (k,i)):(k=false/\i<x.ag.length/\x.fU i=true)\/(k=true/\i<x.au.length/\x.gH i=true):=by
 unfold fk.fst at h;cases h0:(range x.ag.length).find? x.fU with
 |some j=>
  rw[h0] at h;cases h;exact .inl ⟨rfl,Zm.1 (Qdt h0),Qic h0⟩
 |none=>
  rw[h0] at h;cases h1:(range x.au.length).find? x.gH with
  |some j=>
   rw[h1] at h;cases h;exact .inr ⟨rfl,Zm.1 (Qdt h1),Qic h1⟩
  |none=>rw[h1] at h;cases h
def vq{x:fk}(h:x.fst=some (k,i))(lp:x.pp.length=x.ag.length)(ld:x.pd.length=x.au.length):Bl (x.place k i).2+1=Bl x:=by
 rcases CM h with⟨rfl,hi,hw⟩|⟨rfl,hi,hw⟩
 .have h1:=qX x.pp i (Ko hw Mx);unfold Bl fk.place;simp only[Xn,Qgf];omega
 .have h1:=qX x.pd i (Kn hw Mx);unfold Bl fk.place;simp only[Qdx];omega
def PT{x:fk}(f:Nat)(h:x.fst=none):x.run f=(0,x):=by
 cases f with
 |zero=>rfl
 |succ f=>rw[fk.run,h]
def Ci{x:fk}(f:Nat)(h:x.fst=some (k,i)):x.run (f+1)=if(x.place k i).1=0 then(x.place k i).2.run f else x.place k i:=by rw[fk.run.eq_2,h]
def US(w:Wo)(b:Nat)(v:Va)(xs:Fr):Prop:=Ns w w .i64 v xs/\∀g,v.ownBlock=some g->b<=g
def PlR(w w' :Wo)(r:Int×fk)(v:Va):Prop:=
 (r.1≠0/\v= .tuple #[.agg #[.slice none 0 0,.slice none 0 0],.slice none 0 0,.slice none 0 0,.int .i64 r.1])\/
 (r.1=0/\∃sp sd wp wd,v= .tuple #[.agg #[sp,sd],wp,wd,.int .i64 0]/\US w' w sp r.2.ag/\US w' w sd r.2.au/\aB w' w 3 .i64 wp (eT r.2.pp)/\aB w' w 3 .i64 wd (eT r.2.pd))
def QS(pb tb cb mb:Nat):Nat->Prop:=λk=>k=pb\/TS tb cb mb k
def lS(h:aq w b 55 [x0,x1]):(loadVar 55 (ol b)).run prog w= .ok (.agg #[x0,x1]) w:=by have hl:=Qay (P:=prog) w (ol b) [x0,x1] (λj v hj=>zaG);simp only[QF,Xq,QR,Nat.reduceAdd] at hl;have h2:(isAgg 55).run prog w= .ok true w:=KJ;have h3:(sizeOf 55).run prog w= .ok 2 w:=KJ;exact zfH
def aq.NV{g:Nat}(h:aq w g e [x0,x1])(y0 y1:Va):aq ((w.setCell (ol g) y0).setCell (an g 1) y1) g e [y0,y1]:=(h.set 0 y0).set 1 y1
def oy{P:ST}{fn:Func}{t:Fy}{p u1 u2 u3:Tmp}{a:Addr}{tmps:Zvv}{x:Va}(h:fn.results= #[.cell p t,.tmp u1,.tmp u2,.tmp u3])(hp:tmps.getD p undef= .pointer (some a))(hl:(loadVar t a).run P w= .ok x w):
  (results fn tmps).run P w= .ok (.tuple #[x,tmps.getD u1 undef,tmps.getD u2 undef,tmps.getD u3 undef]) w:=by
 exact zeM
def aB.aT{base:Nat}{k:IntKind}(h:aB w base e k v xs)(hb:aq w nb T cs)(JG:T≠e)(j:Nat)(u:Va):aB (w.setCell (an nb j) u) base e k v xs:=
 Qac h (row:=some nb) ⟨rfl,rfl,rfl,Sv,λi _ bT=>Xl _ _ _ _ (λe=>bT zbl)⟩ (.inr (aq.not_row hb JG h))
def NF(w:Wo)(b:Nat)(v u:Va)(xs ys:Fr):Prop:=aB w b 3 .i64 v xs/\aB w b 3 .i64 u ys/\∀g,v.ownBlock=some g->u.ownBlock≠some g
def ack{W4:Wo}(h:aB W4 b 3 .i64 v xs)(k:aB W5 W4 3 .i64 u ys)(hb:ci W4 W5)(hs:b<=W4):NF W5 b v u xs ys:=
 ⟨h.on hb,k.low hs,λg h1 h2=>by
  have l1:=(Xr h g h1).2;have l2:=(Xr k g h2).1;omega⟩
def NF.on{w' :Wo}(h:NF w b v u xs ys)(hb:ci w w'):NF w' b v u xs ys:=⟨h.1.on hb,h.2.1.on hb,h.2.2⟩
def NF.aT(h:NF w b v u xs ys)(hb:aq w nb T cs)(JG:T≠3)(j:Nat)(x:Va):NF (w.setCell (an nb j) x) b v u xs ys:=⟨h.1.aT hb JG j x,h.2.1.aT hb JG j x,h.2.2⟩
def IX(W3 wx:Wo)(tb pb nb:Nat)(ag au:Fr):Prop:=
 ∃xb vp vd,aq wx nb 175 [.pointer (some ⟨xb,0,none⟩)]/\aq wx xb 181 [.pointer (some ⟨tb,0,none⟩),.pointer (some ⟨pb,0,none⟩),vp,vd,.slice none 0 0,.slice none 0 0]/\NF wx W3 vp vd ag au/\W3<=nb/\W3<=xb/\Below W3 W3 wx
def Vv(h:NF W5 W3 vp vd ag au)(hb:ci W3 W5):
  IX W3 ((W5.alloc (.cells #[li tb,li pb,vp,vd,am none 0 0,am none 0 0] 181)).alloc (.cells #[li W5.heap.size] 175)) tb pb (W5.heap.size+1) ag au:=by
 refine⟨W5.heap.size,vp,vd,cL W5 _ _,dx W5 _ _,h.on ((aF _ _).alloc Sv _),XK hb.size,hb.size,(hb.alloc hb.size _).alloc (Qh hb.size Sv) _⟩
def Vu(h:NF W5 W3 vp vd ag au)(hb:ci W3 W5):
  IX W3 ((W5.alloc (.cells #[li (W5.heap.size+1)] 175)).alloc (.cells #[li tb,li pb,vp,vd,am none 0 0,am none 0 0] 181)) tb pb W5 ag au:=
 ⟨W5.heap.size+1,vp,vd,dx W5 _ _,cL W5 _ _,h.on ((aF _ _).alloc Sv _),hb.size,XK hb.size,(hb.alloc hb.size _).alloc (Qh hb.size Sv) _⟩
def Ji{z:Va}(h:NF W5 W3 vp vd ag au)(hb:ci W3 W5)(k:aq W5 nb 175 [z])(hn:W3<=nb):
  IX W3 ((W5.alloc (.cells #[li tb,li pb,vp,vd,am none 0 0,am none 0 0] 181)).setCell (ol nb) (li W5.heap.size)) tb pb nb ag au:=by
 have k1:=k.alloc (.cells #[li tb,li pb,vp,vd,am none 0 0,am none 0 0] 181);have k2:aq (W5.alloc (.cells #[li tb,li pb,vp,vd,am none 0 0,am none 0 0] 181)) W5.heap.size 181 [li tb,li pb,vp,vd,am none 0 0,am none 0 0]:=ar W5 [_,_,_,_,_,_] _;exact⟨W5.heap.size,vp,vd,k1.set 0 _,k2.az (λe=>by have:=k.lt;have e2:W5.heap.size=nb:=e;omega) _,(h.on (aF _ _)).aT k1 Fd _ _,hn,hb.size,(hb.alloc hb.size _).setCell (p:=ol nb) hn _⟩
def ace:(prog.info? 4).map (λi=>(i.zero,i.size,i.bytes))=some (some (.bool false),1,1):=KJ
def vI(n:Nat)(hn:n<=100000)(w:Wo):(Instr.makeSlice 178 (ac n) (ac n)).run prog w= .ok (el w.heap.size 0 n n) (w.alloc (.cells (replicate n (.bool false)).toArray 4)):=
 eV underlying178 ace (Ia false) Fd n hn w
def NX(t:aE)(next:Nat)(ag au:Fr):fk:=⟨t,next,ag,au,ag.map λ_=>false,au.map λ_=>false⟩
def yh{X:Wo}{next:Nat}{t:aE}(ht:bf X tb cb mb t)(hp:aq X pb 131 (iX tb 2 next))
  (hm:aq X xb 181 [li tb,li pb,el g0 0 np c0,el g1 0 nd c1,am none 0 0,am none 0 0])
  (r0:Rw X g0 3 (ag.map (.int .i64))) (r1:Rw X g1 3 (au.map (.int .i64))) (b0:aq X h0 4 (replicate np (.bool false))) (b1:aq X h1 4 (replicate nd (.bool false)))
  (SX:g0≠g1) (SW:h0≠h1) (ei:np=ag.length) (im:nd=au.length) (pV:np<=c0/\c0<=maxLen) (jb:nd<=c1/\c1<=maxLen) (n0:np<=1700) (n1:nd<=1700) (yW:2<=next) (oc:next<=t.len) (hr:∀x∈ag++au,0<=x/\x<=65535):
  fA ((X.setCell (an xb 4) (el h0 0 np np)).setCell (an xb 5) (el h1 0 nd nd)).drew xb tb pb g0 g1 h0 h1 c0 c1 cb mb (NX t next ag au):=by
 subst ei im;have q:aG (λk=>k=xb) X (rc (rc X xb 4 (el h0 0 ag.length ag.length)) xb 5 (el h1 0 au.length au.length)).drew:=
  aG.drew (aG.setCell (S:=λk=>k=xb) (aG.setCell (S:=λk=>k=xb) (aG.refl _ X) (λ_=>rfl) _) (λ_=>rfl) _)
 refine⟨⟨?_,r0.aL q (r0.ne hm Fd),r1.aL q (r1.ne hm Fd),?_,?_,SX,SW,?_,?_,pV,jb,Qh n0 Fd,Qh n1 Fd⟩,
  ht.aL q (Xm (hm.ne ht.own Fd)) (Xm (hm.ne ht.counts Fd)) (Xm (hm.bS ht.kept)),hp.aL q (hp.ne hm Fd),yW,oc,λy hy=>(hr y hy).1⟩
 .exact(hm.set 4 _).set 5 _
 .have h:=(b0.aL q (b0.ne hm Fd)).rw;show Rw _ _ _ ((ag.map λ_=>false).map .bool);exact zff
 .have h:=(b1.aL q (b1.ne hm Fd)).rw;show Rw _ _ _ ((au.map λ_=>false).map .bool);exact zff
 .exact Qq _
 .exact Qq _
structure ny(w wr:Wo)(nb xb tb pb g0 g1 h0 h1 c0 c1 cb mb:Nat)(np nd:Nat)(r:Int×fk)(x:fk)(f:Nat):Prop where
 DY:fA wr xb tb pb g0 g1 h0 h1 c0 c1 cb mb x
 box:aq wr nb 175 [.pointer (some ⟨xb,0,none⟩)]
 res:aq wr (w.heap.size+1) 55 [.slice none 0 0,.slice none 0 0]
 aL:aG (QS pb tb cb mb) w wr
 run:r=x.run f
 unp:Bl x<=f
 np:x.ag.length=np
 nd:x.au.length=nd
def fk.oB(x:fk)(k:Bool)(i:Nat):(x.place k i).2.ag.length=x.ag.length/\(x.place k i).2.au.length=x.au.length:=by unfold fk.place;cases k<;>simp
def ny.step{r:Int×fk}{x:fk}(h:ny w wr nb xb tb pb g0 g1 h0 h1 c0 c1 cb mb np nd r x f)(hx:x.fst=some (k,i))(he:(x.place k i).1=0)
  (hp:fA W xb tb pb g0 g1 h0 h1 c0 c1 cb mb (x.place k i).2) (hc:aG (PS pb tb cb mb g0 g1 h0 h1) wr W) (pj:w<=g0/\w<=g1/\w<=h0/\w<=h1) (gZ:¬PS pb tb cb mb g0 g1 h0 h1 nb) (oL:¬PS pb tb cb mb g0 g1 h0 h1 (w.heap.size+1)):
  ∃f',ny w W nb xb tb pb g0 g1 h0 h1 c0 c1 cb mb np nd r (x.place k i).2 f'/\f' <f:=by
 have hu:=vq hx h.DY.gm.lp h.DY.gm.ld;have hun:=h.unp;obtain⟨f',rfl⟩:∃f',f=f' +1:=⟨f - 1,Mx⟩;refine⟨f',⟨hp,h.box.aL hc gZ,h.res.aL hc oL,?_,?_,Mx,?_,?_⟩,XL _⟩
 .refine h.aL.iR hc (λ_ _ h=>h) (λy hy hs=> ?_);obtain hs|hs|hs|hs|hs:=hs
  .exact hs
  .omega
  .omega
  .omega
  .omega
 .rw[h.run,Ci f' hx,Xo he]
 .rw[(fk.oB x k i).1];exact h.np
 .rw[(fk.oB x k i).2];exact h.nd
def ny.on{r:Int×fk}{x:fk}(h:ny w wr nb xb tb pb g0 g1 h0 h1 c0 c1 cb mb np nd r x f)(hb:ci wr W):ny w W nb xb tb pb g0 g1 h0 h1 c0 c1 cb mb np nd r x f:=
 ⟨h.DY.on hb,h.box.on hb,h.res.on hb,h.aL.trans (aG.aZ hb),h.run,h.unp,h.np,h.nd⟩
def kI(k:Bool):Int:=if k then 1 else 0
def Gf{x:fk}(h:x.fst=some (k,i)):kc x=[ac (kI k),ac i]:=by rw[kc,h];cases k<;>rfl
def Gg{x:fk}(h:x.fst=none):kc x=[ac (-1),ac (-1)]:=by rw[kc,h]
def FY(w:Wo)(xb tb pb g0 g1 h0 h1 c0 c1 cb mb:Nat)(x:fk)(h:fA w xb tb pb g0 g1 h0 h1 c0 c1 cb mb x)(hx:x.fst=some (k,i)):
  Calls prog 98 #[li xb,ac (kI k),ac i] w (iF (ac (x.place k i).1) λw' =>fA w' xb tb pb g0 g1 h0 h1 c0 c1 cb mb (x.place k i).2/\aG (PS pb tb cb mb g0 g1 h0 h1) w w') :=by
 rcases CM hx with⟨rfl,hi,-⟩|⟨rfl,hi,-⟩
 .exact F4 w xb tb pb g0 g1 h0 h1 c0 c1 cb mb x h i hi
 .exact F2 w xb tb pb g0 g1 h0 h1 c0 c1 cb mb x h i hi
def FX(w:Wo)(tb cb mb pb next:Nat)(t:aE)(ht:bf w tb cb mb t)(hp:aq w pb 131 (iX tb 2 next))(yW:2<=next)(oc:next<=t.len)(pv dv:Va)(ag au:Fr)(pY:Ns w w .i64 pv ag)(ue:Ns w w .i64 dv au)
  (dh:(ag.length:Int)=aR t.len) (oR:(au.length:Int)=aR ag.length) (hr:∀x∈ag++au,0<=x/\x<=65535):
  Calls prog 35 #[.pointer (some ⟨tb,0,none⟩),.pointer (some ⟨pb,0,none⟩),.agg #[pv,dv]] w λe w' =>(∃v,e= .returned v/\PlR w w' (fm t next ag au) v)/\bf w' tb cb mb (fm t next ag au).2.t/\aq w' pb 131 (iX tb 2 (fm t next ag au).2.next)/\aG (QS pb tb cb mb) w w' :=by
 obtain⟨Ap,cp,rfl,hp1,Tx⟩:=pY.form;obtain⟨Ad,cd,rfl,JO,TH⟩:=ue.form;have⟨np,ei⟩:=eX ag.length;have⟨nd,im⟩:=eX au.length;have⟨n,hn⟩:=eX t.len;have ec:=ht.ok;have⟨W2,cE⟩:=eX ((w.alloc (.cells #[.slice Ap ag.length cp,.slice Ad au.length cd] 55)).alloc (.cells #[.slice none 0 0,.slice none 0 0] 55));have X2:Af (aq W2 w 55 [.slice Ap np cp,.slice Ad nd cd]):=by show _=_;rw[cE,ei,im];exact dx w _ _
 have R2:Af (aq W2 (w.heap.size+1) 55 [.slice none 0 0,.slice none 0 0]):=by show _=_;rw[cE];exact cL w _ _
 have B2:Af (ci w W2):=zbz;have Ey:W2.heap.size=w.heap.size+2:=by rw[cE];simp
 have T2:=aa (ht.on B2.o);have P2:=aa (hp.on B2.o);have Hpv:=aa (show Ns W2 w .i64 (.slice Ap np cp) ag by rw[ei];exact Ns.below pY B2.o);have Hdv:=aa (show Ns W2 w .i64 (.slice Ad nd cd) au by rw[im];exact Ns.below ue B2.o);have px:=aa (cn W2 tb n _ _ (hn▸T2.o.x0));have mn:=aa (vC W2 tb cb mb t T2.o (.slice Ap np cp) (.slice Ad nd cd) ag au (Hpv.o.more B2.o.size) (Hdv.o.more B2.o.size) dh oR hr);have jU:((n:Int)==0)=false:=Xc (by have:=ec.n0;omega);have HNd:=aa (λW=>Cy W n (by have:=ec.n0;omega) zco);have gY:=ff n Mx zco;have Hn:=Ba hn ei im (by rw[<-hn] at dh;omega:np<=1700) (by have:=ff np Mx (by rw[<-hn] at dh;omega);rw[ei] at this;omega:nd<=1700);have NI:=dK yW oc;have anN:=aa oR;have HnP:Af (1<=np/\1<=nd):=by
  have h0:=ec.n0;have q1:1<=ag.length:=by unfold aR at dh;split at dh<;>omega
  have q2:1<=au.length:=by unfold aR at oR;split at oR<;>omega
  exact⟨Mx,Mx⟩
 have HE:Af (∀W,ci w W->bf W tb cb mb t/\aq W pb 131 (iX tb 2 next)):=λW hW=>⟨ht.on hW,hp.on hW⟩;rw[<-ei,<-im] at cE|-;have Tb:=aa cE.symm;clear cE ht hp yW oc pY ue dh oR hp1 Tx JO TH ei im hn ec gY;change Af _ at Ey hr;go_in;go_upto_region 1 with fail;rw[Tb.o];obtain⟨x0,x1⟩:=gh X2.o;by_cases SC:¬ke t ag au=true
 .have aaU:ke t ag au=false:=by simpa using SC
  have e1:fm t next ag au=(100,⟨t,next,ag,au,ag.map λ_=>false,au.map λ_=>false⟩):=by rw[fm,Xd (by have:=T2.o.ok.n0;omega),Xo aaU]
  have E1:=aa e1;rw[aaU] at mn;clear SC aaU e1;go_upto_region 4 with(first
   |(go_at_call 63;(with_reducible refine px.o.mono ?_);rintro e W9 ⟨rfl,rfl⟩)
   |(go_at_call 54;refine Pe mn.o λW3 B3=> ?_))
  have R3:=aa (R2.o.on B3.o);obtain⟨y0,y1⟩:=gh R3.o;obtain⟨f0,f1⟩:=fR2 R3.o;clear x0 x1 mn;go_wp2_with fail;refine Qar (oy rfl rfl (lS (R3.o.NV _ _))) rfl ?_;rw[E1.o];have Z3:=((Pd B2.o B3.o).setCell (p:=⟨w.heap.size+1,0,none⟩) (Q0 _) (.slice none 0 0)).setCell (p:=⟨w.heap.size+1,1,none⟩) (Q0 _) (.slice none 0 0);exact⟨⟨_,rfl,.inl ⟨(by show(100:Int)≠0;decide),rfl⟩⟩,(HE.o _ Z3).1,(HE.o _ Z3).2,aG.aZ Z3⟩
 .have SC:=Decidable.not_not.1 SC
  rw[SC] at mn;have Hso:=aa SC;clear SC;go_upto_region 5 with(first
   |(go_at_call 63;(with_reducible refine px.o.mono ?_);rintro e W9 ⟨rfl,rfl⟩)
   |(go_at_call 54;refine Pe mn.o λW3 B3=> ?_))
  obtain⟨R3,X3,py⟩:=qC (R2.o.on B3.o) (X2.o.on B3.o) (Pd B2.o B3.o);have pw:=aa (cn W3 tb n _ _ (by rw[Hn.p1];exact(HE.o W3 py.o).1.x0));obtain⟨IC,ag9,aha⟩:=qC (xY W3 pb tb cb mb 2 next t (HE.o W3 py.o).2 (HE.o W3 py.o).1 (Qh NI.p1 NI.q1)) (Ns.below Hpv.o (B3.o.mono B2.o.size)) (Ns.below Hdv.o (B3.o.mono B2.o.size));have NG:Af (w.heap.size+2<=W3.heap.size):=by show _<=_;rw[<-Ey.o];exact B3.o.size
  clear x0 x1 mn px Hpv Hdv T2 P2 X2 R2 Tb Ey B2 B3;by_cases BH:t.room 2<kU n
  .have e1:fm t next ag au=(90,⟨t,next,ag,au,ag.map λ_=>false,au.map λ_=>false⟩):=by rw[fm,Xd zcD,Xd (by rw[Hso.o];simp),Xo (Hn.p1▸BH)]
   have E1:=aa e1;obtain⟨y0,y1⟩:=gh R3.o;obtain⟨f0,f1⟩:=fR2 R3.o;clear e1;go_wp2_with(first
    |(go_at_call 63;(with_reducible refine pw.o.mono ?_);rintro e W9 ⟨rfl,rfl⟩)
    |(go_at_call 18;(with_reducible refine IC.o.mono ?_);rintro e W9 ⟨rfl,rfl⟩)
    |(go_at_call 19;(with_reducible refine(HNd.o _).mono ?_);rintro e W9 ⟨rfl,rfl⟩))
   refine Qar (oy rfl rfl (lS (R3.o.NV _ _))) rfl ?_;rw[E1.o];have Z3:=((py.o).setCell (p:=⟨w.heap.size+1,0,none⟩) (Q0 _) (.slice none 0 0)).setCell (p:=⟨w.heap.size+1,1,none⟩) (Q0 _) (.slice none 0 0);exact⟨⟨_,rfl,.inl ⟨(by show(90:Int)≠0;decide),rfl⟩⟩,(HE.o _ Z3).1,(HE.o _ Z3).2,aG.aZ Z3⟩
  .have e1:fm t next ag au=fk.run (ag.length+au.length) ⟨t,next,ag,au,ag.map λ_=>false,au.map λ_=>false⟩:=by rw[fm,Xd zcD,Xd (by rw[Hso.o];simp),Xd (Hn.p1▸BH)]
   have E1:=aa e1;clear e1;go_upto_region 7 with(first
    |(go_at_call 63;(with_reducible refine pw.o.mono ?_);rintro e W9 ⟨rfl,rfl⟩)
    |(go_at_call 18;(with_reducible refine IC.o.mono ?_);rintro e W9 ⟨rfl,rfl⟩)
    |(go_at_call 19;(with_reducible refine(HNd.o _).mono ?_);rintro e W9 ⟨rfl,rfl⟩))
   clear pw IC HNd BH;have dZ:Af (∀W,ci W3 W->W.cell? ⟨w.heap.size,0,none⟩=some (.slice Ap np cp)/\W.cell? ⟨w.heap.size,1,none⟩=some (.slice Ad nd cd)):=λW hW=>⟨(X3.o.on hW).j0,(X3.o.on hW).j1⟩;have NR:Af (∀W,ci W3 W->Calls prog 95 #[.slice Ap np cp] W λe w' =>∃v',e= .returned v'/\aB w' W 3 .i64 v' ag/\ci W w'):=λW hW=>Fl W _ ag _ (Ns.below ag9.o (hW.mono (Qh (XM _ _) NG.o))) wl;have Tg:Af (∀W,ci W3 W->Calls prog 95 #[.slice Ad nd cd] W λe w' =>∃v',e= .returned v'/\aB w' W 3 .i64 v' au/\ci W w'):=λW hW=>Fl W _ au _ (Ns.below aha.o (hW.mono (Qh (XM _ _) NG.o))) wl;have Bi:Af (∀W o,ci W3 W->ci W3 (W.alloc o)):=λW o h=>h.alloc h.size o;have HSs:Af (∀W b j u,ci W3 W->W3.heap.size<=b->ci W3 (W.setCell ⟨b,j,none⟩ u)):=λW b j u h hb=>h.setCell (p:=⟨b,j,none⟩) hb u;go_cut [10] from 34 to 44 (λv wx=>∃nb,v= .pointer (some ⟨nb,0,none⟩)/\Af (IX W3 wx tb pb nb ag au))
   .have lz:=dZ.o W3.drew (Xj _ _).drew;go_region_held3 (λW=>W.cell? ⟨w.heap.size,0,none⟩=some (.slice Ap np cp)/\W.cell? ⟨w.heap.size,1,none⟩=some (.slice Ad nd cd)) (first|with_reducible exact lz|with_reducible exact dZ.o _ (Bi.o _ _ (Xj _ _)).drew|with_reducible exact dZ.o _ B4.o|with_reducible exact dZ.o _ B5.o|with_reducible exact dZ.o _ (Bi.o _ _ B4.o)|with_reducible exact dZ.o _ (Bi.o _ _ B5.o)|with_reducible exact dZ.o _ (Bi.o _ _ (Bi.o _ _ B5.o))|with_reducible exact dZ.o _ (HSs.o _ _ _ _ (Bi.o _ _ B5.o) (Qg _))|with_reducible exact dZ.o _ (HSs.o _ _ _ _ (Bi.o _ _ B5.o) B4.o.size)|with_reducible exact dZ.o _ (HSs.o _ _ _ _ (Bi.o _ _ B5.o) B5.o.size)|with_reducible exact dZ.o _ (HSs.o _ _ _ _ (Bi.o _ _ (Bi.o _ _ B5.o)) B5.o.size)|go_keep)
     (first
      |((go_at_call 95);(with_reducible refine(NR.o _ ?_).mono ?_);(·first|exact(Xj _ _).drew|exact(Bi.o _ _ (Xj _ _)).drew);rintro e W4 ⟨v4,rfl,o4,b4⟩;obtain⟨A4,n4,c4,hv4⟩:=o4.bu;subst hv4;have O4:=aa o4;have Q4:=aa b4;have B4:Af (ci W3 W4):=(by first|exact(Xj _ _).drew.trans b4|exact(Bi.o W3 _ (Xj _ _)).drew.trans (b4.mono (Bi.o W3 _ (Xj _ _)).size));(try have K4:=aa (aq.on (w:=(W3.alloc (.cells #[.pointer none] 175)).drew) (ar W3 [.pointer none] 175) b4));(try have z4:=K4.o.j0);(try have f4:=K4.o.free 0);clear o4 b4)
      |((go_at_call 95);(with_reducible refine(Tg.o _ ?_).mono ?_);(·first|exact B4.o|exact B4.o.alloc B4.o.size _);rintro e W5 ⟨v5,rfl,o5,b5⟩;obtain⟨A5,n5,c5,hv5⟩:=o5.bu;subst hv5;have O5:=aa o5;have Q5:=aa b5;have B5:Af (ci W3 W5):=(by first|exact Pd B4.o b5|exact(B4.o.alloc B4.o.size _).trans (b5.mono (Qh B4.o.size Sv)));(try have K5:=aa (K4.o.on b5));(try have K5:=aa ((ar W4 [.pointer none] 175).on b5));(try have z5:=K5.o.j0);(try have f5:=K5.o.free 0);(try have z6:=λo=>(K5.o.alloc o).j0);(try have f6:=λo=>(K5.o.alloc o).free 0);(try clear z4 f4);have E4:ci W4 W5:=(by first|exact b5|exact(aF W4 _).trans (b5.mono Sv));have HV:=aa (ack (aB.low O4.o (by first|exact Qg _|exact(Bi.o W3 _ (Xj _ _)).size)) (aB.low o5 (by first|exact Qg _|(simp;done))) E4 B4.o.size);clear o5 b5 E4))
    .go_wp2_with fail;go_meet
     .exact⟨_,rfl,Vv HV.o B5.o⟩
    .go_wp2_with fail;go_meet
     .exact⟨_,rfl,Vu HV.o B5.o⟩
    .go_wp2_with fail;go_meet
     .exact⟨_,rfl,Ji HV.o B5.o K5.o B4.o.size⟩
    .go_wp2_with fail;go_meet
     .exact⟨_,rfl,Ji HV.o B5.o K5.o (Qg _)⟩
   .obtain⟨nb,rfl,HC⟩:=hcut;obtain⟨xb,vp,vd,m1,m2,m3,m4,m5,m6⟩:=HC.o;obtain⟨g0,c0,Tu,AV,pV,agQ,rg0⟩:=rK m3.1 zdn;obtain⟨g1,c1,hvd,SN,jb,agP,rg1⟩:=rK m3.2.1 zdn;have agJ:g0≠g1:=λe=>m3.2.2 g0 (by rw[Tu];rfl) (by rw[hvd,e];rfl);rw[Tu,hvd,<-Hn.p2,<-Hn.p3] at m2;have HM:=anl m1 m2 rg0 rg1 agJ m6 m4 m5 AV SN;have S0:=kH (by have:=Hn.o;omega:np<=c0) agQ (by have:=Hn.o;omega:nd<=c1) agP;clear HC m1 m2 m3 m4 m5 m6 Tu hvd AV SN pV jb agQ agP rg0 rg1 agJ;have n0:=HM.p1.j0;obtain⟨-,-,-,-,z2,z3⟩:=cL6 HM.p2;obtain⟨-,-,-,-,f2,f3⟩:=fR6 HM.p2;have NL:Af (∀W,ci wc W->(W.cell? ⟨w.heap.size,0,none⟩=some (.slice Ap np cp)/\W.cell? ⟨w.heap.size,1,none⟩=some (.slice Ad nd cd))/\W.cell? ⟨nb,0,none⟩=some (.pointer (some ⟨xb,0,none⟩))):=λW hW=>⟨dZ.o W (Pd HM.p6 hW),(HM.p1.on hW).j0⟩;have hs4:=NL.o wc.drew (Xj _ _).drew;have ana:=vI np wl;have am9:=vI nd wl;have z4:=λo o' =>((HM.p2.alloc o).alloc o').j4;have z5:=λo o' =>((HM.p2.alloc o).alloc o').j5;have f4:=λo o' =>((HM.p2.alloc o).alloc o').free 4;have f5:=λo o' =>((HM.p2.alloc o).alloc o').free 5;clear z2 z3 f2 f3;have fu:=HM.p1.ne HM.p2 Fd;have JF:w.heap.size≠xb:=(by have:=HM.p8;have:=NG.o;omega);have Kg:Af (∀W o,ci wc W->ci wc (W.alloc o)):=λW o h=>h.alloc h.size o;have HSx:Af (∀W i j u u',ci wc W->((((W.setCell ⟨xb,i,none⟩ u).setCell ⟨xb,j,none⟩ u').drew.cell? ⟨w.heap.size,0,none⟩=some (.slice Ap np cp)/\((W.setCell ⟨xb,i,none⟩ u).setCell ⟨xb,j,none⟩ u').drew.cell? ⟨w.heap.size,1,none⟩=some (.slice Ad nd cd))/\((W.setCell ⟨xb,i,none⟩ u).setCell ⟨xb,j,none⟩ u').drew.cell? ⟨nb,0,none⟩=some (.pointer (some ⟨xb,0,none⟩)))):=λW i j u u' h=>by
     have h1:=NL.o W h;refine⟨⟨?_,?_⟩,?_⟩<;>refine Qgg (b:=((W.setCell ⟨xb,i,none⟩ u).setCell ⟨xb,j,none⟩ u').cell? _) rfl ?_<;>rw[Qcq _ _ _ _ (λe=>OW),Qcq _ _ _ _ (λe=>OW)]
     .exact h1.1.1
     .exact h1.1.2
     .exact h1.2
    go_upto_region 8 with fail;go_cut [10] from 45 to 56 (λv wx=>v= .pointer (some ⟨nb,0,none⟩)/\Af (∃h0 h1,fA wx xb tb pb g0 g1 h0 h1 c0 c1 cb mb (NX t next ag au)/\aq wx nb 175 [.pointer (some ⟨xb,0,none⟩)]/\W3<=h0/\W3<=h1/\ci W3 wx))
    .go_region_held3 (λW=>(W.cell? ⟨w.heap.size,0,none⟩=some (.slice Ap np cp)/\W.cell? ⟨w.heap.size,1,none⟩=some (.slice Ad nd cd))/\W.cell? ⟨nb,0,none⟩=some (.pointer (some ⟨xb,0,none⟩))) (first|with_reducible exact hs4|with_reducible exact NL.o _ ((Kg.o _ _ (Xj _ _)).drew)|with_reducible exact NL.o _ ((Kg.o _ _ (Kg.o _ _ (Xj _ _))).drew)|with_reducible exact HSx.o _ _ _ _ _ (Kg.o _ _ (Kg.o _ _ (Xj _ _)))|go_keep) (fail)
     .have hX:ci wc ((wc.alloc (.cells (replicate np (Value.bool false)).toArray 4)).alloc (.cells (replicate nd (Value.bool false)).toArray 4)):=(aF _ _).alloc Sv _;have WE:=Pd HM.p6 hX;have Z7:=Pd py.o WE;have b0:aq ((wc.alloc (.cells (replicate np (Value.bool false)).toArray 4)).alloc (.cells (replicate nd (Value.bool false)).toArray 4)) wc.heap.size 4 (replicate np (Value.bool false)):=dx wc _ _;have b1:aq ((wc.alloc (.cells (replicate np (Value.bool false)).toArray 4)).alloc (.cells (replicate nd (Value.bool false)).toArray 4)) (wc.heap.size+1) 4 (replicate nd (Value.bool false)):=cL wc _ _;obtain⟨hP,hN,hB⟩:=qC (yh (HE.o _ Z7).1 (HE.o _ Z7).2 (HM.p2.on hX) (HM.p3.on hX) (HM.p4.on hX) b0 b1 HM.p5 Mx Hn.p2 Hn.p3 ⟨S0.p1,S0.p2⟩ S0.q2 Hn.p4 Hn.q4 NI.p1 NI.q1 hr.o) ((((HM.p1.on hX).az (p:=⟨xb,4,none⟩) fu (.slice (some ⟨wc.heap.size,0,none⟩) np np)).az (p:=⟨xb,5,none⟩) fu (.slice (some ⟨wc.heap.size+1,0,none⟩) nd nd))) (((WE.setCell (p:=⟨xb,4,none⟩) HM.p8 (.slice (some ⟨wc.heap.size,0,none⟩) np np)).setCell (p:=⟨xb,5,none⟩) HM.p8 (.slice (some ⟨wc.heap.size+1,0,none⟩) nd nd)).drew);clear hX WE Z7 b0 b1;simp only[Zg] at hP hN hB;go_wp2_with fail;go_meet
      .exact⟨rfl,_,_,hP.o,hN.o,HM.p6.size,XK HM.p6.size,hB.o⟩
     .have hX:ci wc ((wc.alloc (.cells (replicate nd (Value.bool false)).toArray 4)).alloc (.cells (replicate np (Value.bool false)).toArray 4)):=(aF _ _).alloc Sv _;have WE:=Pd HM.p6 hX;have Z7:=Pd py.o WE;have b1:aq ((wc.alloc (.cells (replicate nd (Value.bool false)).toArray 4)).alloc (.cells (replicate np (Value.bool false)).toArray 4)) wc.heap.size 4 (replicate nd (Value.bool false)):=dx wc _ _;have b0:aq ((wc.alloc (.cells (replicate nd (Value.bool false)).toArray 4)).alloc (.cells (replicate np (Value.bool false)).toArray 4)) (wc.heap.size+1) 4 (replicate np (Value.bool false)):=cL wc _ _;obtain⟨hP,hN,hB⟩:=qC (yh (HE.o _ Z7).1 (HE.o _ Z7).2 (HM.p2.on hX) (HM.p3.on hX) (HM.p4.on hX) b0 b1 HM.p5 Mx Hn.p2 Hn.p3 ⟨S0.p1,S0.p2⟩ S0.q2 Hn.p4 Hn.q4 NI.p1 NI.q1 hr.o) ((((HM.p1.on hX).az (p:=⟨xb,4,none⟩) fu (.slice (some ⟨wc.heap.size+1,0,none⟩) np np)).az (p:=⟨xb,5,none⟩) fu (.slice (some ⟨wc.heap.size,0,none⟩) nd nd))) (((WE.setCell (p:=⟨xb,4,none⟩) HM.p8 (.slice (some ⟨wc.heap.size+1,0,none⟩) np np)).setCell (p:=⟨xb,5,none⟩) HM.p8 (.slice (some ⟨wc.heap.size,0,none⟩) nd nd)).drew);clear hX WE Z7 b0 b1;simp only[Zg] at hP hN hB;go_wp2_with fail;go_meet
      .exact⟨rfl,_,_,hP.o,hN.o,XK HM.p6.size,HM.p6.size,hB.o⟩
    .obtain⟨rfl,HC⟩:=hcut;obtain⟨h0,h1,k1,k2,k3,k4,k5⟩:=HC.o;have EK:=aa k1;have EL:=aa k2;have Hge:=Nv HM.p7 HM.p8 HM.p9 HM.q9 k3 k4;obtain⟨mU,HR5,HX5,Ol⟩:=rx (Pd py.o k5) (R3.o.on k5) (X3.o.on k5) NG.o;clear HC k1 k2 k3 k4 k5 HM n0 z4 z5 f4 f5 hs4 NL HSx Kg ana am9 fu JF NR Tg Bi HSs dZ ag9 aha R3 X3 jU;have pj:Af (w<=g0/\w<=g1/\w<=h0/\w<=h1):=(by have:=Hge.o;have:=Ol.o;refine⟨?_,?_,?_,?_⟩<;>omega);have aJ:=HE.o w (Xj _ _);have gZ:Af (¬PS pb tb cb mb g0 g1 h0 h1 nb):=by
      have a1:=EL.o.ne EK.o.pick Fd;have a2:=EL.o.ne EK.o.fh.own Fd;have a3:=EL.o.ne EK.o.fh.counts Fd;have a4:=EL.o.bS EK.o.fh.kept;have b1:=EK.o.gm.r0.ne EL.o Fd;have b2:=EK.o.gm.r1.ne EL.o Fd;have b3:=EK.o.gm.p0.ne EL.o Fd;have b4:=EK.o.gm.p1.ne EL.o Fd;rintro((e|e|e|e)|e|e|e|e)
      .exact a1 e
      .exact a2 e
      .exact a3 e
      .exact a4 e
      .exact b1 e.symm
      .exact b2 e.symm
      .exact b3 e.symm
      .exact b4 e.symm
     have oL:Af (¬PS pb tb cb mb g0 g1 h0 h1 (w.heap.size+1)):=(by have l1:=aJ.2.lt;have l2:=aJ.1.own.lt;have l3:=aJ.1.counts.lt;have l4:=aJ.1.kept.lt;have:=Hge.o;have:=Ol.o;rintro((e|e|e|e)|e|e|e|e)<;>omega);have hu0:Bl (NX t next ag au)=ag.length+au.length:=(by have e:∀l:List Int,(l.map λ_=>false).countP (λb=> !b)=l.length:=λl=>(by induction l<;>simp_all);show(ag.map λ_=>false).countP (λb=> !b)+(au.map λ_=>false).countP (λb=> !b)=_;rw[e,e]);have HL0:Af (ny w wc nb xb tb pb g0 g1 h0 h1 c0 c1 cb mb np nd (fm t next ag au) (NX t next ag au) (np+nd)):=
      ⟨EK.o,EL.o,HR5.o,aG.aZ mU.o,by rw[E1.o,Hn.p2,Hn.p3];rfl,by rw[hu0,Hn.p2,Hn.p3];exact Qg _,Hn.p2.symm,Hn.p3.symm⟩
     have HNx:Af (∀(W:Wo) (x:fk),fA W xb tb pb g0 g1 h0 h1 c0 c1 cb mb x->aq W nb 175 [.pointer (some ⟨xb,0,none⟩)]->x.ag.length=np->x.au.length=nd->Calls prog 96 #[.pointer (some ⟨nb,0,none⟩)] W (iF (.tuple (kc x).toArray) λw' =>ci W w')):=λW x a b c d=>(by refine Rq W nb xb tb pb g0 g1 h0 h1 c0 c1 cb mb x a b (λi hi=> ?_);rw[d] at hi;rw[c];have h1:=anN.o;rw[<-Hn.p2,<-Hn.p3] at h1;unfold aR at h1;split at h1<;>omega);have hN0:=aa (HNx.o wc _ EK.o EL.o Hn.p2.symm Hn.p3.symm);obtain⟨k0,i0,AA⟩:∃k i,kc (NX t next ag au)=[k,i]:=(by unfold kc;split<;>exact⟨_,_,rfl⟩);rw[AA] at hN0;have Hki:=aa AA;clear aJ hu0 EK EL HR5 mU HX5 E1 AA;go_wp2_with(go_at_call 96;refine Pe hN0.o λW6 B6=> ?_);go_loopg [12,13] (np+nd) (λg kk ii wr=>∃x,kc x=[kk,ii]/\Af (ny w wr nb xb tb pb g0 g1 h0 h1 c0 c1 cb mb np nd (fm t next ag au) x g))
     .exact⟨_,Hki.o,HL0.o.on B6.o⟩
     .obtain⟨x,Tz,HR⟩:=hrel
      cases hx:x.fst with
      |none=>
       rw[Gg hx] at Tz
       cases Tz;have Hx:=aa hx;clear hx hN0 HL0 B6 Hki;go_upto_region 16 with fail;have hT0:Ts wr wr (.slice (some ⟨h0,0,none⟩) np np) x.pp:=(by rw[Ts,HR.o.DY.gm.lp,HR.o.np];exact HR.o.DY.gm.p0.sl (n:=np) (sz:=1) (by rw[Qq,HR.o.DY.gm.lp,HR.o.np,Qci]) (Qg _) zbu);have rh:Ts wr wr (.slice (some ⟨h1,0,none⟩) nd nd) x.pd:=(by rw[Ts,HR.o.DY.gm.ld,HR.o.nd];exact HR.o.DY.gm.p1.sl (n:=nd) (sz:=1) (by rw[Qq,HR.o.DY.gm.ld,HR.o.nd,Qci]) (Qg _) zbu);have fD:Af (∀W,ci wr W->Calls prog 99 #[.slice (some ⟨h0,0,none⟩) np np] W λe w' =>∃v',e= .returned v'/\aB w' W 3 .i64 v' (eT x.pp)/\ci W w'):=λW hW=>xL W _ x.pp (Sl.more (Sl.below hT0 hW) hW.size) (by rw[HR.o.DY.gm.lp,HR.o.np];have:=Hn.o;omega);have gB:Af (∀W,ci wr W->Calls prog 99 #[.slice (some ⟨h1,0,none⟩) nd nd] W λe w' =>∃v',e= .returned v'/\aB w' W 3 .i64 v' (eT x.pd)/\ci W w'):=λW hW=>xL W _ x.pd (Sl.more (Sl.below rh hW) hW.size) (by rw[HR.o.DY.gm.ld,HR.o.nd];have:=Hn.o;omega);have bN:=HR.o.DY.gm.own;rw[HR.o.np,HR.o.nd] at bN;have HS:Af (∀W,ci wr W->W.cell? ⟨nb,0,none⟩=some (.pointer (some ⟨xb,0,none⟩))/\W.cell? ⟨xb,2,none⟩=some (.slice (some ⟨g0,0,none⟩) np c0)/\W.cell? ⟨xb,3,none⟩=some (.slice (some ⟨g1,0,none⟩) nd c1)/\W.cell? ⟨xb,4,none⟩=some (.slice (some ⟨h0,0,none⟩) np np)/\W.cell? ⟨xb,5,none⟩=some (.slice (some ⟨h1,0,none⟩) nd nd)):=λW hW=>⟨(HR.o.box.on hW).j0,(bN.on hW).j2,(bN.on hW).j3,(bN.on hW).j4,(bN.on hW).j5⟩;have hs:=HS.o wr.drew (Xj _ _).drew;have wU:¬nb=w.heap.size+1:=(by have:=Hge.o;have:=Ol.o;omega);have agl:¬xb=w.heap.size+1:=(by have:=Hge.o;have:=Ol.o;omega);have HSr:Af (∀W u u',ci wr W->((W.setCell ⟨w.heap.size+1,0,none⟩ u).setCell ⟨w.heap.size+1,1,none⟩ u').cell? ⟨nb,0,none⟩=some (.pointer (some ⟨xb,0,none⟩))/\((W.setCell ⟨w.heap.size+1,0,none⟩ u).setCell ⟨w.heap.size+1,1,none⟩ u').cell? ⟨xb,2,none⟩=some (.slice (some ⟨g0,0,none⟩) np c0)/\((W.setCell ⟨w.heap.size+1,0,none⟩ u).setCell ⟨w.heap.size+1,1,none⟩ u').cell? ⟨xb,3,none⟩=some (.slice (some ⟨g1,0,none⟩) nd c1)/\((W.setCell ⟨w.heap.size+1,0,none⟩ u).setCell ⟨w.heap.size+1,1,none⟩ u').cell? ⟨xb,4,none⟩=some (.slice (some ⟨h0,0,none⟩) np np)/\((W.setCell ⟨w.heap.size+1,0,none⟩ u).setCell ⟨w.heap.size+1,1,none⟩ u').cell? ⟨xb,5,none⟩=some (.slice (some ⟨h1,0,none⟩) nd nd)):=λW u u' hW=>(by have q:aG (λy=>y=w.heap.size+1) W ((W.setCell ⟨w.heap.size+1,0,none⟩ u).setCell ⟨w.heap.size+1,1,none⟩ u'):=aG.setCell (S:=λy=>y=w.heap.size+1) (aG.setCell (S:=λy=>y=w.heap.size+1) (aG.refl _ W) (λ_=>rfl) _) (λ_=>rfl) _;have b1:=(HR.o.box.on hW).aL q wU;have b2:=(bN.on hW).aL q agl;exact⟨b1.j0,b2.j2,b2.j3,b2.j4,b2.j5⟩);clear hT0 rh bN wU agl;go_region_held3 (λW=>W.cell? ⟨nb,0,none⟩=some (.pointer (some ⟨xb,0,none⟩))/\W.cell? ⟨xb,2,none⟩=some (.slice (some ⟨g0,0,none⟩) np c0)/\W.cell? ⟨xb,3,none⟩=some (.slice (some ⟨g1,0,none⟩) nd c1)/\W.cell? ⟨xb,4,none⟩=some (.slice (some ⟨h0,0,none⟩) np np)/\W.cell? ⟨xb,5,none⟩=some (.slice (some ⟨h1,0,none⟩) nd nd)) (first|with_reducible exact hs|with_reducible exact HS.o _ B7.o|with_reducible exact HS.o _ B8.o|with_reducible exact HSr.o _ _ _ B8.o|go_keep)
        (first
         |((go_at_call 99);(with_reducible refine(fD.o _ ?_).mono ?_);(·first|exact(Xj _ _).drew);rintro e W7 ⟨v7,rfl,o7,b7⟩;obtain⟨A7,n7,c7,hv7⟩:=o7.bu;subst hv7;have O7:=aa o7;have Q7:=aa b7;have B7:Af (ci wr W7):=(by first|exact(Xj _ _).drew.trans b7);clear o7 b7)
         |((go_at_call 99);(with_reducible refine(gB.o _ ?_).mono ?_);(·first|exact B7.o);rintro e W8 ⟨v8,rfl,o8,b8⟩;obtain⟨A8,n8,c8,hv8⟩:=o8.bu;subst hv8;have O8:=aa o8;have Q8:=aa b8;have B8:Af (ci wr W8):=(by first|exact Pd B7.o b8);have R8:=aa (HR.o.res.on B8.o);have y0:=R8.o.j0;have y1:=R8.o.j1;have f0:=R8.o.free 0;have f1:=R8.o.free 1;clear o8 b8))
       go_wp2_with fail;refine Qar (oy rfl rfl (lS (R8.o.NV _ _))) rfl ?_;have iq:fm t next ag au=(0,x):=(by rw[HR.o.run,PT _ Hx.o]);have aJ:=HE.o w (Xj _ _);have l1:=aJ.2.lt;have l2:=aJ.1.own.lt;have l3:=aJ.1.counts.lt;have l4:=aJ.1.kept.lt;have q8:aG (λy=>y=w.heap.size+1) W8 ((W8.setCell ⟨w.heap.size+1,0,none⟩ (.slice (some ⟨g0,0,none⟩) np c0)).setCell ⟨w.heap.size+1,1,none⟩ (.slice (some ⟨g1,0,none⟩) nd c1)):=aG.setCell (S:=λy=>y=w.heap.size+1) (aG.setCell (S:=λy=>y=w.heap.size+1) (aG.refl _ W8) (λ_=>rfl) _) (λ_=>rfl) _;rw[iq];have hb8:=Q8.o;have agH:=pj.o;have hGe:=Hge.o;have WE:=Ol.o;have p8:=(HR.o.DY.on B8.o);have o7:=(((aB.on O7.o Q8.o).aT R8.o Fd 0 (.slice (some ⟨g0,0,none⟩) np c0)).aT (R8.o.set 0 _) Fd 1 (.slice (some ⟨g1,0,none⟩) nd c1));have o8:=((O8.o.aT R8.o Fd 0 (.slice (some ⟨g0,0,none⟩) np c0)).aT (R8.o.set 0 _) Fd 1 (.slice (some ⟨g1,0,none⟩) nd c1));have lw:=HR.o.aL.size;have l8:=B7.o.size;have s0:=p8.gm.r0.aL q8 Mx;have s1:=p8.gm.r1.aL q8 Mx;refine⟨⟨_,rfl,.inr ⟨rfl,_,_,_,_,rfl,⟨?_,λg hg=> ?_⟩,⟨?_,λg hg=> ?_⟩,o7.low lw,o8.low (Qh lw l8)⟩⟩,p8.fh.aL q8 Mx Mx Mx,p8.pick.aL q8 Mx,?_⟩
       .unfold Ns;rw[HR.o.np];exact s0.sl (n:=np) (sz:=1) (by rw[Qq,HR.o.np,Qci]) S0.p1 S0.p2
       .cases hg;exact agH.1
       .unfold Ns;rw[HR.o.nd];exact s1.sl (n:=nd) (sz:=1) (by rw[Qq,HR.o.nd,Qci]) S0.p3 S0.q3
       .cases hg;exact agH.2.1
       .exact(HR.o.aL.trans (aG.aZ B8.o)).iR q8 (λ_ _ h=>h) (λy hy hs=>Mx)
      |some ki=>
       obtain⟨k,i⟩:=ki;rw[Gf hx] at Tz
       cases Tz;have hP:=FY wr xb tb pb g0 g1 h0 h1 c0 c1 cb mb x HR.o.DY hx;have⟨e,he⟩:=eX ((x.place k i).1);rw[<-he] at hP;have HP:=aa hP;have n0:=HR.o.box.j0;have ml:=Xh i;have⟨kk,hkk⟩:=eX (kI k);rw[<-hkk] at HP|-;clear hP hN0 HL0 B6 Hki hkk;change Af _ at hx he;by_cases he0:e=0
       .subst he0;go_upto_region 12 with(go_at_call 98;refine rY HP.o λW7 p7 c7=> ?_;have P7:=aa p7;have C7:=aa c7;clear p7 c7);have cO:=HR.o.step hx.o he.o.symm P7.o C7.o pj.o gZ.o oL.o;have hN:=HNx.o W7 _ P7.o (HR.o.box.aL C7.o gZ.o) (by rw[(fk.oB x k i).1];exact HR.o.np) (by rw[(fk.oB x k i).2];exact HR.o.nd);obtain⟨k2,i2,aa3⟩:∃k' i',kc (x.place k i).2=[k',i']:=(by unfold kc;split<;>exact⟨_,_,rfl⟩);rw[aa3] at hN;clear n0 ml;change Af _ at cO hN aa3;go_wp2_with(go_at_call 96;refine Pe hN.o λW8 B8=> ?_);obtain⟨f',hL,hf⟩:=cO.o;change Af _ at hL hf;go_roundg f'
        case measure=>exact hf.o
        .exact⟨_,aa3.o,hL.o.on B8.o⟩
       .have he1:(e !=0)=true:=(by simp[he0]);have He0:=aa he0;clear he0;go_wp2_with(go_at_call 98;refine rY HP.o λW7 p7 c7=> ?_;obtain⟨P7,C7,R7⟩:=qC p7 c7 (HR.o.res.aL c7 oL.o);have y0:=R7.o.j0;have y1:=R7.o.j1;have f0:=R7.o.free 0;have f1:=R7.o.free 1;clear p7 c7);refine Qar (oy rfl rfl (lS (R7.o.NV _ _))) rfl ?_;have iq:fm t next ag au=x.place k i:=(by have hun:=vq hx.o HR.o.DY.gm.lp HR.o.DY.gm.ld;have hu2:=HR.o.unp;obtain⟨f',hf⟩:∃f',gk=f' +1:=⟨gk - 1,Mx⟩;rw[HR.o.run,hf,Ci f' hx.o,Xd (he.o▸He0.o)]);have q7:aG (λy=>y=w.heap.size+1) W7 ((W7.setCell ⟨w.heap.size+1,0,none⟩ (.slice none 0 0)).setCell ⟨w.heap.size+1,1,none⟩ (.slice none 0 0)):=aG.setCell (S:=λy=>y=w.heap.size+1) (aG.setCell (S:=λy=>y=w.heap.size+1) (aG.refl _ W7) (λ_=>rfl) _) (λ_=>rfl) _;have aJ:=HE.o w (Xj _ _);have l1:=aJ.2.lt;have l2:=aJ.1.own.lt;have l3:=aJ.1.counts.lt;have l4:=aJ.1.kept.lt;rw[iq];refine⟨⟨_,rfl,.inl ⟨by rw[<-he.o];exact He0.o,by rw[<-he.o];rfl⟩⟩,P7.o.fh.aL q7 Mx Mx Mx,P7.o.pick.aL q7 Mx,?_⟩;refine(HR.o.aL.iR C7.o (λ_ _ h=>h) (λy hy hs=> ?_)).iR q7 (λ_ _ h=>h) (λy hy hs=>Mx);have:=pj.o;obtain hs|hs|hs|hs|hs:=hs
        .exact hs
        .omega
        .omega
        .omega
        .omega
variable{n next:Nat}{t:aE}
namespace aE
def freeHi(t:aE)(b:Nat):Bool:=t.free b&&decide (2<=b)
def countP_split(p:Nat->Bool)(n:Nat)(h:2<=n):(range n).countP p=(range 2).countP p+(range n).countP (λb=>p b&&decide (2<=b)):=by
 obtain⟨m,rfl⟩:=Qja h;induction m with
 |zero=>cases h0:p 0<;>cases h1:p 1<;>simp[Qbd,h0,h1]
 |succ m ih=>
  rw[show 2+(m+1)=(2+m)+1 by omega,Qbd,Qcd,Qcd,ih Mx];have:List.countP (λb=>p b&&decide (2<=b)) [2+m]=List.countP p [2+m]:=by simp[Qai]
  rw[this];omega
def room_eq(h:t.Ok)(h2:2<=t.len):t.room 2=(range t.len).countP t.freeHi:=by have:=countP_split t.free t.len h2;rw[room,h.cY,this];have e:(range t.len).countP t.freeHi=(range t.len).countP (λb=>t.free b&&decide (2<=b)):=rfl;rw[e];have e2:(range 2).countP t.free=(range 2).countP (λb=>t.free b):=rfl;omega
def room_set(h:t.Ok)(h2:2<=t.len){b:Nat}(hb:b<t.len){n:Int}(h0:0<=n)(h1:n<=65535):(t.set b n).room 2=t.room 2 - (if t.freeHi b then 1 else 0)+(if(t.set b n).freeHi b then 1 else 0):=by have ec:=h.set hb h0 h1;rw[room_eq h h2,room_eq ec (by rw[tU];exact h2),tU];have:=acG t.freeHi (t.set b n).freeHi b t.len (λx hx=>by unfold freeHi free;rw[tU,VH hb,ajO h hb,Xd hx]) hb;exact this
def find_none_room(h:t.Ok)(h2:2<=t.len)(hn:2<=next)(hl:next<=t.len)(hf:t.find 2 next=none):t.room 2=0:=by
 rw[room_eq h h2];have:(range t.len).countP t.freeHi=0:=List.countP_eq_zero.2 λb hb=>by
  have hb:=Zm.1 hb;unfold freeHi;intro hc;simp at hc;have h3:=Qfi.1 hf b (by
   obtain h4|h4:=Qae b next
   .exact QD _ (List.mem_range'_1.2 ⟨hc.2,Mx⟩)
   .exact QB _ (List.mem_range'_1.2 ⟨h4,Mx⟩))
  exact h3 hc.1
 omega
def take_ok(h:t.Ok)(h2:2<=t.len)(hn:2<=next)(hl:next<=t.len)(hr:0<t.room 2):∃k,t.find 2 next=some k/\k<t.len/\2<=k/\t.free k=true/\t.take 2 next=((k:Int),0,t.set k 1,if k+1=t.len then 2 else k+1)/\(t.set k 1).room 2=t.room 2 - 1:=by
 cases hf:t.find 2 next with
 |none=>have:=find_none_room h h2 hn hl hf;omega
 |some k=>
  obtain⟨k1,k2,k3⟩:=Jq hn hf;have hg:t.get k=0:=by unfold free at k3;simp at k3;exact k3.1.2
  refine⟨k,rfl,k1,k2,k3,?_,?_⟩
  .unfold take;rw[hf];simp only;rw[hg];rfl
  .have e1:t.freeHi k=true:=(by rw[freeHi,k3];simpa using k2);have e2:(t.set k 1).freeHi k=false:=(by unfold freeHi free;rw[VH k1,Xo rfl];simp);rw[room_set h h2 k1 Fd Fd,e1,e2];simp
def down_ok(h:t.Ok)(h2:2<=t.len)(b:Nat):(t.down b).2.Ok/\t.room 2<=(t.down b).2.room 2:=by
 unfold down;by_cases h3:t.len<=b
 .rw[Xo h3];exact⟨h,Qcp _⟩
 .rw[Xd h3];by_cases h4:t.get b=0
  .rw[Xo h4];exact⟨h,Qcp _⟩
  .rw[Xd h4];have hr:=ll h b;refine⟨h.set Mx Mx Mx,?_⟩;show _<=(t.set b (t.get b - 1)).room 2;rw[room_set h h2 Mx Mx Mx];have:t.freeHi b=false:=(by unfold freeHi free;simp;intro h5 h6;exact absurd h6 h4);rw[this,Xd Fd];split<;>omega
end aE
def rm_step{u u' :Nat}{r r' r0:Int}(hu:u' +1=u)(h1:(u:Int)<=r0)(h2:r0<=r)(h3:r' =r - 1):(u' :Int)<=r' :=Mx
structure anH(x:fk):Prop where
 ok:x.t.Ok
 l2:2<=x.t.len
 n2:2<=x.next
 nl:x.next<=x.t.len
 lp:x.pp.length=x.ag.length
 ld:x.pd.length=x.au.length
 rg:∀y∈x.ag++x.au,0<=y/\y<x.t.len
 rm:(Bl x:Int)<=x.t.room 2
def anH.place{x:fk}(h:anH x){k:Bool}{i:Nat}(hf:x.fst=some (k,i)):(x.place k i).1=0/\anH (x.place k i).2/\(x.place k i).2.t.len=x.t.len:=by
 have hu:=vq hf h.lp h.ld;obtain⟨l1,l2⟩:=x.oB k i;obtain⟨t1,Ex,ht1l,ht1r,hs⟩:∃t1:aE,t1.Ok/\t1.len=x.t.len/\x.t.room 2<=t1.room 2/\(let r:=t1.take 2 x.next
  x.place k i=(r.2.1,if k then{x with t:=r.2.2.1,next:=r.2.2.2,au:=x.au.set i r.1,pd:=x.pd.set i true} else{x with t:=r.2.2.1,next:=r.2.2.2,ag:=x.ag.set i r.1,pp:=x.pp.set i true})):=by
  unfold fk.place;by_cases ho:(if k then x.au.getD i 0 else x.ag.getD i 0)=0
  .exact⟨x.t,h.ok,rfl,Qcp _,by simp only[ho,Qdx]⟩
  .have hd:=aE.down_ok h.ok h.l2 (if k then x.au.getD i 0 else x.ag.getD i 0).toNat;exact⟨_,hd.1,aE.vh _ _,hd.2,by simp only[Xd ho]⟩
 obtain⟨b,hb,fg,sq,hbf,ZD,ZJ⟩:=aE.take_ok Ex (ht1l▸h.l2) h.n2 (ht1l▸h.nl) (by have:=h.rm;omega);simp only at hs;rw[ZD] at hs;have hrg:∀(l:Fr),(∀y∈l,0<=y/\y<x.t.len)->∀y∈l.set i (b:Int),0<=y/\y<x.t.len:=λl hl y hy=>by
  obtain h1|h1:=Zz hy
  .exact hl y h1
  .subst h1;rw[ht1l] at fg;omega
 have r1:∀y∈x.ag,0<=y/\y<x.t.len:=λy hy=>h.rg y (QB _ hy);have r2:∀y∈x.au,0<=y/\y<x.t.len:=λy hy=>h.rg y (QD _ hy);have hok' :(t1.set b 1).Ok:=Ex.set fg Fd Fd;have hle:(t1.set b 1).len=x.t.len:=by rw[aE.tU,ht1l]
 have fu:2<=(if b+1=t1.len then 2 else b+1)/\(if b+1=t1.len then 2 else b+1)<=x.t.len:=by have:=h.l2;split<;>omega
 have Wt:=h.lp;have hld:=h.ld;have agf:=h.rm;rw[hs] at l1 l2 hu|-;cases k with
 |true=>
  simp only[Qdx] at l1 l2 hu|-;refine⟨trivial,⟨hok',by rw[hle];exact h.l2,fu.1,by rw[hle];exact fu.2,h.lp,by simp[h.ld],λy hy=> ?_,rm_step hu agf ht1r ZJ⟩,hle⟩;rw[hle];obtain h1|h1:=Qz.1 hy
  .exact r1 y h1
  .exact hrg _ r2 y h1
 |false=>
  simp only[Xn,Qgf] at l1 l2 hu|-;refine⟨trivial,⟨hok',by rw[hle];exact h.l2,fu.1,by rw[hle];exact fu.2,by simp[h.lp],h.ld,λy hy=> ?_,rm_step hu agf ht1r ZJ⟩,hle⟩;rw[hle];obtain h1|h1:=Qz.1 hy
  .exact hrg _ r1 y h1
  .exact r2 y h1
def anH.run{f:Nat}:∀{x:fk},anH x->(x.run f).1=0/\anH (x.run f).2/\(x.run f).2.t.len=x.t.len/\(x.run f).2.ag.length=x.ag.length/\(x.run f).2.au.length=x.au.length:=by
 induction f with
 |zero=>intro x h;exact⟨rfl,h,rfl,rfl,rfl⟩
 |succ f ih=>
  intro x h;cases hf:x.fst with
  |none=>rw[PT _ hf];exact⟨rfl,h,rfl,rfl,rfl⟩
  |some p=>
   obtain⟨k,i⟩:=p;obtain⟨h1,h2,h3⟩:=h.place hf;obtain⟨e1,e2⟩:=x.oB k i;rw[Ci f hf,Xo h1];obtain⟨a1,a2,a3,a4,a5⟩:=ih h2;exact⟨a1,a2,a3.trans h3,a4.trans e1,a5.trans e2⟩
def countP_not_false{α:Type}(l:List α):(l.map λ_=>false).countP (λb=> !b)=l.length:=by
 induction l with
 |nil=>rfl
 |cons a r ih=>rw[Zs,Qai,ih];rfl
def sheetOk_len{t:aE}(h:ke t ag au=true):(ag.length:Int)=aR t.len/\(au.length:Int)=aR (ag.length:Int):=by unfold ke at h;simp only[XR,Qad] at h;exact h.1
def placeV_good{t:aE}(ht:t.Ok)(h2:2<=t.len)(hs:ke t ag au=true)(hr:kU t.len<=t.room 2)(hn:2<=next)(hl:next<=t.len)(hg:∀y∈ag++au,0<=y/\y<t.len):
  fm t next ag au=(NX t next ag au).run (ag.length+au.length)/\(fm t next ag au).1=0/\anH (fm t next ag au).2/\(fm t next ag au).2.t.len=t.len/\(fm t next ag au).2.ag.length=ag.length/\(fm t next ag au).2.au.length=au.length:=by
 have e:fm t next ag au=(NX t next ag au).run (ag.length+au.length):=by unfold fm;simp only;rw[Xd Mx,Xd (by rw[hs];decide),Xd Mx];rfl
 obtain⟨s1,s2⟩:=sheetOk_len hs;have hu:Bl (NX t next ag au)=ag.length+au.length:=zfQ
 have h0:anH (NX t next ag au):=⟨ht,h2,hn,hl,zdz,zdz,hg,by
  rw[hu];show((ag.length+au.length:Nat):Int)<=t.room 2;unfold kU at hr;rw[<-s1,<-s2] at hr
  push_cast
  exact hr⟩
 rw[e];exact⟨rfl,h0.run⟩
def zG(n:Nat):(aE.new n).len=n:=by simp[aE.new,aE.len]
def new_get(n b:Nat):(aE.new n).get b=0:=by unfold aE.get aE.new;simp only[Qe,Zr];split<;>rfl
def new_was(n b:Nat):(aE.new n).mE b=0:=by rw[aE.mE,new_get];unfold aE.new;simp only[Qe,Zr];split<;>rfl
def new_free(n b:Nat)(h:b<n):(aE.new n).free b=true:=by rw[aE.free,zG,new_get,new_was];simpa using h
def new_room(n:Nat)(h:2<=n):(aE.new n).room 2=(n:Int) - 2:=by
 unfold aE.room;have:(range 2).countP (λb=>(aE.new n).free b)=2:=by simp[Qbd,new_free n 0 Mx,new_free n 1 Mx]
 rw[this];rfl
def seenOk_zeros(t:aE)(seen:Fr)(k:Nat):jE t seen (replicate k 0)=true:=by
 induction k with
 |zero=>rfl
 |succ k ih=>rw[Qcy,jE,Xo rfl];exact ih
def kN(n:Nat):Nat:=(aR n).toNat
def mN(n:Nat):Nat:=(aR (aR n)).toNat
def uK(h:1<=n):((kN n:Nat):Int)=aR n/\((mN n:Nat):Int)=aR (kN n:Nat):=by unfold kN mN aR;rw[Xd Mx];have:(1:Int)<=((n:Int) - 1)/61+1:=Mx;have e:((((n:Int) - 1)/61+1).toNat:Int)=((n:Int) - 1)/61+1:=Mx;rw[e];refine⟨rfl,?_⟩;rw[Xd Mx];omega
def needV_room(h0:16<=n)(h1:n<=4096):kU n<=(n:Int) - 2:=by unfold kU aR;rw[Xd Mx,Xd Mx];omega
def new_sheet(h0:16<=n):ke (aE.new n) (replicate (kN n) 0) (replicate (mN n) 0)=true:=by obtain⟨e1,e2⟩:=uK (n:=n) Mx;rw[ke,Qas,seenOk_zeros,zG,QK,QK,Xa e1,Xa e2];rfl
def format_place(h0:16<=n)(h1:n<=4096):(fm (aE.new n) 2 (replicate (kN n) 0) (replicate (mN n) 0)).1=0/\anH (fm (aE.new n) 2 (replicate (kN n) 0) (replicate (mN n) 0)).2/\(fm (aE.new n) 2 (replicate (kN n) 0) (replicate (mN n) 0)).2.t.len=n/\
  (fm (aE.new n) 2 (replicate (kN n) 0) (replicate (mN n) 0)).2.ag.length=kN n/\(fm (aE.new n) 2 (replicate (kN n) 0) (replicate (mN n) 0)).2.au.length=mN n:=by
 have hg:=placeV_good (t:=aE.new n) (next:=2) (aE.ab0 Mx h1) zcB (new_sheet h0) zbM go zcB (λy hy=>by rw[Qas] at hy;rw[QJ hy,zG];omega);rw[zG,QK,QK] at hg;exact hg.2
end
section
variable {t t0 : aE}{α : Type}{i : Nat}{l m : List Int}{hold : List Nat}{x : fk}
def get_was_of{b:Nat}(h:(t.kept.getD b none).isSome=false):t.mE b=t.get b:=by
 unfold aE.mE;cases hk:t.kept.getD b none with
 |none=>rfl
 |some c=>rw[hk] at h;cases h
structure PlG(hold:GT)(t0:aE)(p0 d0:Fr)(x:fk):Prop where
 ok:anH x
 len:x.t.len=t0.len
 mE:∀b,x.t.mE b=t0.mE b
 lp:x.ag.length=p0.length
 ld:x.au.length=d0.length
 held:∀b∈hold,x.t.get b=1
 one:∀y∈x.ag++x.au,y≠0->2<=y/\x.t.get y.toNat=1
 nd:∀(i j:Nat) (y:Int),(x.ag++x.au)[i]? =some y->(x.ag++x.au)[j]? =some y->y≠0->i=j
 nhd:∀y∈x.ag++x.au,y≠0->y.toNat∉hold
 rest:∀b,b<x.t.len->x.t.get b≠0->b∈hold\/(b≠0/\(b:Int)∈x.ag++x.au)
 wG:∀i,x.pp.getD i false=false->x.ag.getD i 0=p0.getD i 0
 oldd:∀i,x.pd.getD i false=false->x.au.getD i 0=d0.getD i 0
 new:∀i,x.pp.getD i false=true->x.ag.getD i 0≠0/\t0.mE (x.ag.getD i 0).toNat=0
 newd:∀i,x.pd.getD i false=true->x.au.getD i 0≠0/\t0.mE (x.au.getD i 0).toNat=0
def getD_setN(l:List α){j:Nat}(y d:α)(h:j≠i):(l.set i y).getD j d=l.getD j d:=by rw[Qe,Qct (Xm h),Qe]
def getD_set_eq{l:List α}(y d:α)(h:i<l.length):(l.set i y).getD i d=y:=by rw[Qe,Qbc h];rfl
def set_append_left(y:Int)(h:i<l.length):l.set i y++m=(l++m).set i y:=by rw[Qcs _ _ h]
def set_append_right(y:Int):l++m.set i y=(l++m).set (l.length+i) y:=by rw[ZB _ _ Mx,Qbe]
def place_counts{z:Fr}{next m:Nat}{wG:Int}(ht:t.Ok)(h2:2<=t.len)(n2:2<=next)(nl:next<=t.len)(BH:0<t.room 2)(hwas:∀b,t.mE b=t0.mE b)
  (hhold:∀b∈hold,t.get b=1) (N1:∀y∈z,y≠0->2<=y/\t.get y.toNat=1) (im:∀(i j:Nat) (y:Int),z[i]? =some y->z[j]? =some y->y≠0->i=j) (hout:∀y∈z,y≠0->y.toNat∉hold)
  (dR:∀b,b<t.len->t.get b≠0->b∈hold\/(b≠0/\(b:Int)∈z)) (hrg:∀y∈z,0<=y/\y<t.len) (hm:z[m]? =some wG):
  ∃(b:Nat) (t2:aE) (nx:Nat),(if wG=0 then t else(t.down wG.toNat).2).take 2 next=((b:Int),0,t2,nx)/\2<=b/\b<t.len/\t0.mE b=0/\t2.Ok/\t2.len=t.len/\2<=nx/\nx<=t.len/\t.room 2<=t2.room 2+1/\(∀c,t2.mE c=t0.mE c)/\(∀c∈hold,t2.get c=1)/\
   (∀y∈z.set m (b:Int),y≠0->2<=y/\t2.get y.toNat=1)/\(∀(i j:Nat) (y:Int),(z.set m (b:Int))[i]? =some y->(z.set m (b:Int))[j]? =some y->y≠0->i=j)/\(∀y∈z.set m (b:Int),y≠0->y.toNat∉hold)/\
   (∀c,c<t2.len->t2.get c≠0->c∈hold\/(c≠0/\(c:Int)∈z.set m (b:Int))):=by
 have Wq:=(Ql.1 hm).1;have UG:=Qi hm;obtain⟨t1,ht1e,Ex,ht1l,ht1r,ht1g,ht1w⟩:∃t1:aE,t1=(if wG=0 then t else(t.down wG.toNat).2)/\t1.Ok/\t1.len=t.len/\t.room 2<=t1.room 2/\(∀c,t1.get c=if wG≠0/\c=wG.toNat then 0 else t.get c)/\∀c,t1.mE c=t.mE c:=by
  by_cases ho:wG=0
  .exact⟨t,by rw[Xo ho],ht,rfl,Qcp _,λc=>by rw[Xd (λh=>h.1 ho)],λc=>rfl⟩
  .obtain⟨o1,o2⟩:=N1 wG UG ho;have hl:=hrg wG UG;have hd:=aE.down_ok ht h2 wG.toNat;have he:t.down wG.toNat=(0,t.set wG.toNat 0):=(by rw[aE.down,Xd Mx,Xd Mx,o2];rfl);refine⟨_,by rw[Xd ho],hd.1,aE.vh _ _,hd.2,λc=> ?_,λc=> ?_⟩
   .rw[he];show(t.set wG.toNat 0).get c=_;rw[aE.VH Mx];by_cases hc:c=wG.toNat
    .rw[Xo hc,Xo ⟨ho,hc⟩]
    .rw[Xd hc,Xd λh=>hc h.2]
   .rw[he];exact aE.ajO ht Mx 0 c
 rw[<-ht1e];obtain⟨b,hb,fg,sq,hbf,ZD,ZJ⟩:=aE.take_ok Ex (ht1l▸h2) n2 (ht1l▸nl) Mx;have Np:t1.get b=0/\t1.mE b=0:=by unfold aE.free at hbf;simp at hbf;exact⟨hbf.1.2,hbf.2⟩
 rw[ht1l] at fg;have JP:t.get b=0\/(wG≠0/\b=wG.toNat):=by
  have:=Np.1;rw[ht1g] at this;by_cases h:wG≠0/\b=wG.toNat
  .exact .inr h
  .rw[Xd h] at this;exact .inl this
 have hbh:b∉hold:=λhmh=>by
  obtain h|⟨h,e⟩:=JP
  .have:=hhold b hmh;omega
  .exact hout wG UG h (e▸hmh)
 have jY:=aE.VH (ht1l▸fg) 1;have hbz:∀(j:Nat) (y:Int),z[j]? =some y->j≠m->y≠0->y≠(b:Int):=λj y hj JK hy e=>by
  have agB:=Qi hj;obtain⟨o1,o2⟩:=N1 y agB hy;obtain h|⟨h,e2⟩:=JP
  .rw[e,Xt] at o2;omega
  .refine JK (im j m wG ?_ hm h);rw[hj,e,e2];have:=(N1 wG UG h).1;congr 1;omega
 have Bp:∀(j:Nat) (y:Int),(z.set m (b:Int))[j]? =some y->(j=m/\y=(b:Int))\/(j≠m/\z[j]? =some y):=λj y hj=>by
  rw[Qbl] at hj;by_cases JK:m=j
  .rw[Xo JK,Xo Wq] at hj;exact .inl ⟨JK.symm,(Qr hj).symm⟩
  .rw[Xd JK] at hj;exact .inr ⟨Xm JK,hj⟩
 have hone' :∀(j:Nat) (y:Int),(z.set m (b:Int))[j]? =some y->y≠0->2<=y/\(t1.set b 1).get y.toNat=1/\y.toNat∉hold:=λj y hj hy=>by
  rcases Bp j y hj with⟨-,rfl⟩|⟨JK,hj⟩
  .rw[Xt,jY,Xo rfl];exact⟨Mx,rfl,hbh⟩
  .have hjz:=Qi hj;obtain⟨o1,o2⟩:=N1 y hjz hy;refine⟨o1,?_,hout y hjz hy⟩;rw[jY,ht1g];by_cases Io:y.toNat=b
   .rw[Xo Io]
   .rw[Xd Io,Xd,o2];rintro⟨h,e⟩;refine JK (im j m wG ?_ hm h);rw[hj];have:=(N1 wG UG h).1;congr 1;omega
 refine⟨b,t1.set b 1,_,ZD,sq,fg,by rw[<-hwas,<-ht1w];exact Np.2,Ex.set (ht1l▸fg) Fd Fd,by rw[aE.tU,ht1l],?_,?_,Mx,λc=> ?_,λc hc=> ?_,λy hy h0=> ?_,λi j y hi hj hy=> ?_,λy hy h0=> ?_,λc hc hg=> ?_⟩
 .split<;>omega
 .rw[ht1l];split<;>omega
 .rw[aE.ajO Ex (ht1l▸fg),ht1w,hwas]
 .have bT:c≠b:=λe=>hbh (e▸hc);rw[jY,Xd bT,ht1g,Xd,hhold c hc];rintro⟨h,e⟩;exact hout wG UG h (e▸hc)
 .obtain⟨j,hj⟩:=Qab hy;exact⟨(hone' j y hj h0).1,(hone' j y hj h0).2.1⟩
 .rcases Bp i y hi with⟨e1,e2⟩|⟨e1,e2⟩
  .rcases Bp j y hj with⟨f1,f2⟩|⟨f1,f2⟩
   .rw[e1,f1]
   .exact absurd e2 (hbz j y f2 f1 hy)
  .rcases Bp j y hj with⟨f1,f2⟩|⟨f1,f2⟩
   .exact absurd f2 (hbz i y e2 e1 hy)
   .exact im i j y e2 f2 hy
 .obtain⟨j,hj⟩:=Qab hy;exact(hone' j y hj h0).2.2
 .rw[aE.tU,ht1l] at hc;rw[jY] at hg;by_cases iI:c=b
  .refine .inr ⟨Mx,?_⟩;rw[iI];exact Qi (Qbc Wq)
  .rw[Xd iI,ht1g] at hg;by_cases ho:wG≠0/\c=wG.toNat
   .rw[Xo ho] at hg;exact absurd rfl hg
   .rw[Xd ho] at hg;obtain h|⟨h0,h⟩:=dR c hc hg
    .exact .inl h
    .refine .inr ⟨h0,?_⟩;obtain⟨j,hj⟩:=Qab h;have JK:j≠m:=λe=>(by rw[e,hm] at hj;have hj:=Qr hj;exact ho ⟨Mx,Mx⟩);exact Qi (i:=j) (by rw[Qct (Xm JK)];exact hj)
def PlG.place{p0 d0:Fr}(h:PlG hold t0 p0 d0 x){k:Bool}(hf:x.fst=some (k,i)):PlG hold t0 p0 d0 (x.place k i).2:=by
 obtain⟨-,hP,-⟩:=h.ok.place hf;have hu:=vq hf h.ok.lp h.ok.ld;have ZJ:=h.ok.rm;have rf:=h.ok.l2;rcases CM hf with⟨rfl,hi,hw⟩|⟨rfl,hi,hw⟩
 .have hm:(x.ag++x.au)[i]? =some (x.ag.getD i 0):=by rw[QN hi,Qe,Qf hi];rfl
  obtain⟨b,t2,nx,e,b2,bl,bw,q1,q2,q3,q4,q5,q6,q7,q8,q9,YY,q11⟩:=place_counts (t0:=t0) (hold:=hold) h.ok.ok rf h.ok.n2 h.ok.nl Mx h.mE h.held h.one h.nd h.nhd h.rest h.ok.rg hm;have dh:(x.place false i).2={x with t:=t2,next:=nx,ag:=x.ag.set i (b:Int),pp:=x.pp.set i true}:=by unfold fk.place;simp only[Xn,Qgf];rw[e]
  rw[dh] at hP|-;have hz:x.ag.set i (b:Int)++x.au=(x.ag++x.au).set i (b:Int):=set_append_left _ hi;have hpp:i<x.pp.length:=by rw[h.ok.lp];exact hi
  refine⟨hP,q2.trans h.len,q6,by simp[h.lp],h.ld,q7,?_,?_,?_,?_,λj hj=> ?_,h.oldd,λj hj=> ?_,h.newd⟩
  .show ∀y∈x.ag.set i (b:Int)++x.au,_;rw[hz];exact q8
  .show ∀(a c:Nat) (y:Int),(x.ag.set i (b:Int)++x.au)[a]? =some y->(x.ag.set i (b:Int)++x.au)[c]? =some y->_;rw[hz];exact q9
  .show ∀y∈x.ag.set i (b:Int)++x.au,_;rw[hz];exact YY
  .show ∀c,c<t2.len->t2.get c≠0->c∈hold\/(c≠0/\(c:Int)∈x.ag.set i (b:Int)++x.au);rw[hz];exact q11
  .have hj:=hj;show(x.ag.set i (b:Int)).getD j 0=_;by_cases TB:j=i
   .rw[TB,getD_set_eq _ _ hpp] at hj;cases hj
   .rw[getD_setN _ _ _ TB] at hj|-;exact h.wG j hj
  .have hj:=hj;show(x.ag.set i (b:Int)).getD j 0≠0/\t0.mE ((x.ag.set i (b:Int)).getD j 0).toNat=0;by_cases TB:j=i
   .exact zfU
   .rw[getD_setN _ _ _ TB] at hj|-;exact h.new j hj
 .have hm:(x.ag++x.au)[x.ag.length+i]? =some (x.au.getD i 0):=by rw[QM Mx,Qbe,Qe,Qf hi];rfl
  obtain⟨b,t2,nx,e,b2,bl,bw,q1,q2,q3,q4,q5,q6,q7,q8,q9,YY,q11⟩:=place_counts (t0:=t0) (hold:=hold) h.ok.ok rf h.ok.n2 h.ok.nl Mx h.mE h.held h.one h.nd h.nhd h.rest h.ok.rg hm;have dh:(x.place true i).2={x with t:=t2,next:=nx,au:=x.au.set i (b:Int),pd:=x.pd.set i true}:=by unfold fk.place;simp only[Qdx];rw[e]
  rw[dh] at hP|-;have hz:x.ag++x.au.set i (b:Int)=(x.ag++x.au).set (x.ag.length+i) (b:Int):=set_append_right _;have hpp:i<x.pd.length:=by rw[h.ok.ld];exact hi
  refine⟨hP,q2.trans h.len,q6,h.lp,by simp[h.ld],q7,?_,?_,?_,?_,h.wG,λj hj=> ?_,h.new,λj hj=> ?_⟩
  .show ∀y∈x.ag++x.au.set i (b:Int),_;rw[hz];exact q8
  .show ∀(a c:Nat) (y:Int),(x.ag++x.au.set i (b:Int))[a]? =some y->(x.ag++x.au.set i (b:Int))[c]? =some y->_;rw[hz];exact q9
  .show ∀y∈x.ag++x.au.set i (b:Int),_;rw[hz];exact YY
  .show ∀c,c<t2.len->t2.get c≠0->c∈hold\/(c≠0/\(c:Int)∈x.ag++x.au.set i (b:Int));rw[hz];exact q11
  .have hj:=hj;show(x.au.set i (b:Int)).getD j 0=_;by_cases TB:j=i
   .rw[TB,getD_set_eq _ _ hpp] at hj;cases hj
   .rw[getD_setN _ _ _ TB] at hj|-;exact h.oldd j hj
  .have hj:=hj;show(x.au.set i (b:Int)).getD j 0≠0/\t0.mE ((x.au.set i (b:Int)).getD j 0).toNat=0;by_cases TB:j=i
   .exact zfU
   .rw[getD_setN _ _ _ TB] at hj|-;exact h.newd j hj
def fst_of_unpl(lp:x.pp.length=x.ag.length)(ld:x.pd.length=x.au.length)(h:Bl x=0):x.fst=none:=by
 cases hf:x.fst with
 |none=>rfl
 |some p=>
  obtain⟨k,i⟩:=p;have:=vq hf lp ld;omega
def PlG.run:∀{f:Nat} {hold:GT} {t0:aE} {p0 d0:Fr} {x:fk},PlG hold t0 p0 d0 x->Bl x<=f->PlG hold t0 p0 d0 (x.run f).2/\(x.run f).2.fst=none
 |0,_,_,_,_,x,h,hu=>⟨h,fst_of_unpl (x:=x) h.ok.lp h.ok.ld Mx⟩
 |f+1,_,_,_,_,x,h,hu=>by
  cases hf:x.fst with
  |none=>rw[PT _ hf];exact⟨h,hf⟩
  |some p=>
   obtain⟨k,i⟩:=p;obtain⟨h1,-,-⟩:=h.ok.place hf;have h2:=vq hf h.ok.lp h.ok.ld;rw[Ci f hf,Xo h1];exact PlG.run (h.place hf) Mx
def fst_done(h:x.fst=none):
  (∀i,i<x.ag.length->x.pp.getD i false=true\/(x.ag.getD i 0≠0/\∀b,61*i<=b->b<61*(i+1)->b<x.t.len->x.t.mE b=x.t.get b))/\
  (∀i,i<x.au.length->x.pd.getD i false=true\/(x.au.getD i 0≠0/\∀j,61*i<=j->j<61*(i+1)->x.pp.getD j false=false)):=by
 unfold fk.fst at h
 cases h0:(range x.ag.length).find? x.fU with
 |some j=>rw[h0] at h;cases h
 |none=>
  rw[h0] at h
  cases h1:(range x.au.length).find? x.gH with
  |some j=>rw[h1] at h;cases h
  |none=>
   rw[Qfi] at h0 h1;constructor
   .intro i hi;have hw:=h0 i (Zm.2 hi);unfold fk.fU at hw
    cases hp:x.pp.getD i false with
    |true=>exact .inl rfl
    |false=>
     rw[hp,Xd Fd] at hw;by_cases hz:x.ag.getD i 0=0
     .rw[Xo hz] at hw;exact absurd rfl hw
     .rw[Xd hz] at hw;refine .inr ⟨hz,λb b1 b2 b3=> ?_⟩;refine get_was_of ?_
      cases hk:(x.t.kept.getD b none).isSome with
      |false=>rfl
      |true=>
       refine absurd ?_ hw;rw[Xb];refine⟨b,Qia.2 ⟨Zm.2 b3,hk⟩,?_⟩;simp[b1,b2]
   .intro i hi;have hw:=h1 i (Zm.2 hi);unfold fk.gH at hw
    cases hp:x.pd.getD i false with
    |true=>exact .inl rfl
    |false=>
     rw[hp,Xd Fd] at hw;by_cases hz:x.au.getD i 0=0
     .rw[Xo hz] at hw;exact absurd rfl hw
     .rw[Xd hz] at hw;refine .inr ⟨hz,λj j1 j2=> ?_⟩
      cases hk:x.pp.getD j false with
      |false=>rfl
      |true=>
       refine absurd ?_ hw;rw[Xb];refine⟨true,?_,rfl⟩;have hj:x.pp[j]? =some true:=by
        rw[Qe] at hk
        cases hx:x.pp[j]? with
        |none=>rw[hx] at hk;cases hk
        |some v=>rw[hx] at hk;exact XF some hk
       refine Qi (i:=j - 61*i) ?_;rw[Ze,Xo Mx,Zb,show 61*i+(j - 61*i)=j by omega];exact hj
end
def flat_drop{α β:Type}(f:α->List β)(k:Nat)(hf:∀x,(f x).length=k):∀(m:List α) (i:Nat),(m.flatMap f).drop (k*i)=(m.drop i).flatMap f
 |m,0=>Sv
 |[],i+1=>Sv
 |x::r,i+1=>by rw[QH,Zk,<-flat_drop f k hf r i,Nat.mul_succ,Qcm,<-Qav,Qdl (hf x)]
def decI_encI(k:Int)(hk:k=4\/k=5)(l:Fr)(hl:l.length<=61)(hr:∀x∈l,0<=x/\x<65536):pB k (encI k l)=some l:=by
 have hb:=yR l;have hz:replicate (123 - (qy l).length) (0:Int)=(replicate (61 - l.length) (0:Int)).flatMap (mH 2):=by
  rw[List.flatMap_replicate];have:mH 2 0=[0,0]:=Fd;rw[this,hb,show 123 - (1+2*l.length)=2*(61 - l.length) by omega];generalize 61 - l.length=q;refine(List.eq_replicate_iff.2 ⟨?_,λb hb=> ?_⟩).symm
  .rw[List.length_flatten];simp;omega
  .obtain⟨t,ht,JP⟩:=List.mem_flatten.1 hb;rw[QJ ht] at JP;simpa using JP
 have⟨m,hm⟩:=eX (l++replicate (61 - l.length) (0:Int));have Wq:m.length=61:=by rw[hm];simp;omega
 have uM:qy l++replicate (123 - (qy l).length) 0=(l.length:Int)::m.flatMap (mH 2):=by rw[hz,hm,QP];rfl
 have hmr:∀x∈m,0<=x/\x<65536:=λx hx=>by
  rw[hm] at hx;obtain hx|hx:=Qz.1 hx
  .exact hr x hx
  .rw[QJ hx];exact⟨Fd,Fd⟩
 have hnums:mq ((l.length:Int)::m.flatMap (mH 2))=m:=by unfold mq;refine Qaf (by simp[Wq]) λi h1 h2=> ?_;rw[Qah,Qbp];rw[cK,show 1+2*i=2*i+1 by omega,Zk,flat_drop (mH 2) 2 (λx=>de 2 x),Zd h2,QH,Qcv (de 2 _)];have:=hmr _ (QI h2);exact ofBe_beN 2 _ this.1 (by have:=this.2;omega)
 unfold pB encI;rw[open_seal k (qy l) zbU,uM];simp only;rw[hnums];have e1:(((l.length:Int)::m.flatMap (mH 2)).headD 0).toNat=l.length:=Xt _;have e2:m.drop l.length=replicate (61 - l.length) 0:=by rw[hm,Qei]
 have e3:m.take l.length=l:=by rw[hm,Qfj]
 rw[e1,e2,e3];refine Xo ⟨trivial,hk,by show(l.length:Int)<=61;omega,?_⟩;rw[XT];intro x hx;rw[QJ hx];rfl
def LW(e:aD):(rq e).length=12:=by rw[rq,Qo,de,de]
def Ib(s:ay):(mw s).length=6+12*s.es.length:=by rw[mw,Qo,Qo,de,Qcj];have:(s.es.map λa=>(rq a).length)=s.es.map λ_=>12:=Zj λx _=>LW x;exact zfz
def decS_encS(s:ay)(hs:bC s=true)(h0:0<=s.next)(he:∀e∈s.es,(0<=e.print/\e.print<18446744073709551616)/\(0<=e.block/\e.block<4294967296)):mJ (encS s)=some s:=by
 have h9:s.es.length<=9:=by unfold bC at hs;simp only[XR,Qad] at hs;exact hs.1.1.1.2
 have fu:s.next<4096:=by unfold bC at hs;simp only[XR,Qad] at hs;exact hs.1.1.1.1.2
 have hb:=Ib s;have⟨Z,hZ⟩:=eX (replicate (123 - (mw s).length) (0:Int));have uM:mw s++replicate (123 - (mw s).length) 0=s.depth::(s.es.length:Int)::(mH 4 s.next++(s.es.flatMap rq++Z)):=by rw[<-hZ];unfold mw;simp
 have hflat:∀i,(s.depth::(s.es.length:Int)::(mH 4 s.next++(s.es.flatMap rq++Z))).drop (6+12*i)=(s.es.flatMap rq++Z).drop (12*i):=λi=>by rw[show 6+12*i=(4+12*i)+1+1 by omega,Zk,Zk,<-Qav,Qdl (de 4 _)]
 have UL:(range s.es.length).map (xI (s.depth::(s.es.length:Int)::(mH 4 s.next++(s.es.flatMap rq++Z))))=s.es:=by
  refine Qaf Sv λi h1 h2=> ?_;rw[Qah,Qbp];have hd:(s.es.flatMap rq++Z).drop (12*i)=rq s.es[i]++((s.es.drop (i+1)).flatMap rq++Z):=by rw[Qeq,flat_drop rq 12 LW,Zd h2,QH,QY];rw[Qcj];have:(s.es.map λa=>(rq a).length)=s.es.map λ_=>12:=Zj λx _=>LW x;exact zfz
  obtain⟨hp,ej⟩:=he _ (QI h2);unfold xI cK;rw[<-Qav (i:=8) (j:=6+12*i),hflat,hd];rw[rq,QY,Qcv (de 8 _),Qdl (de 8 _),Qcv (de 4 _),ofBe_beN 8 _ hp.1 (by have:=hp.2;omega),ofBe_beN 4 _ ej.1 (by have:=ej.2;omega)]
 have OM:cK (s.depth::(s.es.length:Int)::(mH 4 s.next++(s.es.flatMap rq++Z))) 2 4=s.next:=by rw[cK,Zk,Zk,Zl,Qcv (de 4 _)];exact ofBe_beN 4 _ h0 Mx
 unfold mJ encS;rw[open_seal 3 (mw s) zbU,uM];simp only;refine(Xo ⟨trivial,by show(s.es.length:Int)<=9;omega⟩).trans ?_;have e1:((s.depth::(s.es.length:Int)::(mH 4 s.next++(s.es.flatMap rq++Z))).getD 1 0).toNat=s.es.length:=Xt _;have e0:(s.depth::(s.es.length:Int)::(mH 4 s.next++(s.es.flatMap rq++Z))).getD 0 0=s.depth:=rfl;rw[e1,e0,UL,OM];refine Xo ⟨hs,?_⟩;rw[hflat,Qdl,XT]
 .intro x hx;rw[hZ] at hx;rw[QJ hx];rfl
 .rw[Qcj];have:(s.es.map λa=>(rq a).length)=s.es.map λ_=>12:=Zj λx _=>LW x;exact zfz
section
variable{F:Fence}{n:Nat}{P:ST}
def fY(S:FV)(W:Wo)(l:Nat)(o:Obj)(hS:S l):aG S W (W.putObj l o):=
 ⟨rfl,rfl,rfl,by rw[World.putObj_size];exact go,λk _ hn=>World.putObj_heap_other (λe=>hn (by first|exact e▸hS|exact e.symm▸hS))⟩
section
def xZ{α:Type}{g:Operand}{ps:Array Tmp}{assign body:Code}{Q:Mp}{a:Act}{w:Wo}(ZI:F.round=none)(h1:1<=n){gf:Nat}{lb:Zvv}
  (hg:a.eval g= .func (.func gf) #[] lb) (hFg:F.fn gf) (eg:∀args w,(callFunc gf args).run P w= .ok (.enter gf args) w) (lC:α->Array Va) (fc:∀x,(lC x).size=ps.size)
  (S:FV) (Ok:List α->α->Wo->Prop) (BA:List α->Prop) (I:List α->Wo->Prop) (h0:∀W,ci w W->I [] W)
  (hIc:∀pre A C,I pre A->aG (λk=>w<=k) A C->I pre C)
  (hit:∀(l:Nat) (J:List α->Wo->Prop) (W:Wo),ci w W->(∀pre A,J pre A->I pre A)->(∀pre A C,J pre A->aG (λk=>W<=k) A C->J pre C)->
   (∀pre x W1,Ok pre x W1->J pre W1->YieldAt F (n - 1 - 1) P l (lC x) W1 λe W' =>e= .returned (.bool true)/\J (pre++[x]) W'/\aG S W1 W')->J [] W->
   CallsIn F (n - 1) P gf (#[.func (.yield l) #[] #[]]++lb) W λe W' =>(∃v,e= .returned v)/\∃pre,BA pre/\J pre W')
  (hOb:∀pre x A C,Ok pre x A->ci A C->Ok pre x C)
  (a₁:α->Wo->Act) (W₁:α->Wo->Wo) (hW₁:∀x W,ci W (W₁ x W))
  (lJ:∀(l:Nat) (x:α) (W:Wo) (K:Act->Wo->Prop),K (a₁ x W) (W₁ x W)->
   assign.wpIn (F.inRound l) (n - 1 - 1) P (Exit.then K (λ_ _ _=>False)) {tmps:=(ps.zip (lC x)).foldl (λt (p,v)=>t.setIfInBounds p v) a.tmps,defers:=[]} W)
  (uM:∀(l:Nat) (pre:List α) (x:α) (W0:Wo) (o o' :Obj),Ok pre x (W₁ x W0)->I pre (W₁ x W0)->w.heap.size<=l->W0.heap[l]? =some o->o.isCells=false->w.heap.size<=W0.heap.size->
   body.wpIn (F.inRound l) (n - 1 - 1) P (λe _ W' =>e= .normal/\KeepsOthers ((W₁ x W0).putObj l o') W'/\aG S ((W₁ x W0).putObj l o') W'/\I (pre++[x]) W') (a₁ x W0) ((W₁ x W0).putObj l o'))
  (kV:∀(D:Nat) (W:Wo) (pre:List α),w<=D->BA pre->I pre W->W.heap[D]? =some (.deferred (some []))->Q .normal {a with defers:={target:= .collected D,args:= #[]}::a.defers} W):
  (Code.rangeFunc g ps assign body).wpIn F n P Q a w:=by
 refine wpIn_rangeFunc λfn Nj=> ?_;rw[ZI];obtain⟨R,hR⟩:∃R:LoopState->Loop,R=λst=>{state:=st,pending:=none,fn,tmps:=a.tmps,params:=ps,assign,body,defers:=w.heap.size}:=⟨_,rfl⟩;have⟨W1,aW⟩:=eX ((w.alloc (.deferred (some []))).alloc (.loop (R .ready)));have e1:W1.heap[w.heap.size+1]? =some (.loop (R .ready)):=aW▸(cL w _ _);have e0:W1.heap[w.heap.size]? =some (.deferred (some [])):=aW▸(dx w _ _);have b1:ci w W1:=JQ;have s1:W1.heap.size=w.heap.size+2:=zdP;refine⟨w.heap.size+1,[{target:= .collected w.heap.size,args:= #[]}],W1,{target:= .fn (.func gf) lb,args:= #[.func (.yield (w.heap.size+1)) #[] #[]]},W1,gf,#[.func (.yield (w.heap.size+1)) #[] #[]]++lb,W1,?_,?_,?_,?_,λ_=>h1,?_⟩
 .exact zeq
 .simp only[resolve,hg];simp[go_sem]
 .intro f' tD;exact zet
 .exact zfM
 refine(hit (w.heap.size+1) (λpre W=>I pre W/\W.heap[w.heap.size+1]? =some (.loop (R .ready))/\W.heap[w.heap.size]? =some (.deferred (some []))) W1 b1 (λ_ _ h=>h.1) ?_ ?_ ⟨h0 W1 b1,e1,e0⟩).mono ?_
 .rintro pre A C ⟨i,l,d⟩ hc;have hl:=(Qy.1 l).1;have hd:=(Qy.1 d).1;exact⟨hIc _ _ _ i (hc.mono λk _ hk=>Mx),(hc.block _ hl Mx).trans l,(hc.block _ hd Mx).trans d⟩
 .rintro pre x W0 aaZ ⟨i0,l0,d0⟩;have EW:=(Qy.1 l0).1;have aa9:=(Qy.1 d0).1;have hy:=run_yield (P:=P) (args:=lC x) l0 (hR▸(fc _));rw[hR] at hy;have Is:=hW₁ x W0;have MI:aG S W0 (W₁ x W0):=aG.aZ Is;have ec:=hOb _ _ _ _ aaZ Is;have i:=hIc _ _ _ i0 (aG.aZ Is);have l:=(Is.block _ EW).trans l0;have d:=(Is.block _ aa9).trans d0;have aJ:=(Qy.1 l).1;refine⟨fn,_,assign,body,hy,roundIn_of_wpIn Nj (lJ _ x W0 _ ⟨_,run_beginRound l zcm,?_⟩)⟩;have l2:((W₁ x W0).putObj (w.heap.size+1) (.loop {R .ready with state:= .busy})).heap[w.heap.size+1]? =some (.loop {R .ready with state:= .busy}):=World.putObj_heap_same aJ;have d2:((W₁ x W0).putObj (w.heap.size+1) (.loop {R .ready with state:= .busy})).heap[w.heap.size]? =some (.deferred (some [])):=(World.putObj_heap_other Mx).trans d;refine Qit (uM _ pre x W0 _ _ ec i (Q0 _) l0 rfl Mx) ?_;rintro e a3 W3 ⟨rfl,SI,mG,ZU⟩;have l3:=SI.same _ _ l2 rfl;have d3:=SI.same _ _ d2 rfl;refine⟨_,_,run_endRound none l3,rfl,⟨hIc _ _ _ ZU (fY _ W3 _ _ (Q0 _)),?_,(World.putObj_heap_other Mx).trans d3⟩,?_⟩
  .rw[World.putObj_heap_same (Qy.1 l3).1,hR];rfl
  .refine⟨mG.os.trans MI.os,mG.tape.trans MI.tape,mG.output.trans MI.output,by rw[World.putObj_size];have h5:=mG.size;rw[World.putObj_size] at h5;exact Qh MI.size h5,λk hk hn=> ?_⟩;by_cases bQ:k=w.heap.size+1
   .subst bQ;rw[l0,World.putObj_heap_same (Qy.1 l3).1,hR];rfl
   .rw[World.putObj_heap_other bQ,mG.block k (by rw[World.putObj_size];exact Qn hk MI.size) hn,World.putObj_heap_other bQ,MI.block k hk hn]
 .rintro e W2 ⟨⟨v,rfl⟩,pre,hd,i,l,d⟩;have he:=run_endLoop (P:=P) l zcM;have hp:(R .ready).pending=none:=zcm;rw[hp] at he;exact⟨none,_,he,kV _ _ _ go hd (hIc _ _ _ i (fY _ W2 _ _ (Q0 _))) ((World.putObj_heap_other Mx).trans d)⟩
end
variable{k pb:Nat}{W:Wo}
def fy(k:Nat):IntKind:=if k=0 then .u64 else if k<10 then .u32 else .u64
def kK(k:Nat):Int:=if k=0 then 0 else if k=1 then 8 else if k<10 then 4+4*k else 8*k - 36
def ia(k:Nat):Int:=if k=0 then 8 else if k<10 then 4 else 8
def vg(k:Nat):kK (k+1)=kK k+ia k:=by unfold kK ia;split<;>split<;>(try split)<;>(try split)<;>omega
def ln(k:Nat)(h:k<=18):0<=kK k/\kK k<=108:=by unfold kK;split<;>(try split)<;>(try split)<;>omega
def gP(k:Nat):ia k=4\/ia k=8:=by unfold ia;split<;>(try split)<;>simp
def kX(k:Nat)(n:Int):Prop:=0<=n/\n<256^(ia k).toNat
def yD{n:Int}(h:kX k n):IntKind.u64.wrap n=n:=by
 unfold kX at h;have hz:(256:Int)^(ia k).toNat<=18446744073709551616:=by rcases(by unfold ia;split<;>(try split)<;>simp:ia k=4\/ia k=8) with e|e<;>rw[e]<;>decide
 exact ww
structure uq where
 k:Nat
 get:Int
 f:Nat
 bx:Array Va
def uq.set(e:uq):Va:= .func (.func e.f) #[] e.bx
def E6(e:uq):Array Va:= #[.int .i64 (kK e.k),.agg #[.int .i64 (ia e.k),.int .u64 e.get,.func (.func e.f) #[] e.bx]]
def sJ(W:Wo)(pb k:Nat)(v:Va):Prop:=
 (k=0/\v= .func (.func 176) #[] #[.pointer (some ⟨pb,0,none⟩)])\/
 (k=1/\v= .func (.func 177) #[] #[.pointer (some ⟨pb,0,none⟩)])\/
 (∃i ib,i<8/\k=i+2/\v= .func (.func 178) #[] #[.pointer (some ⟨pb,0,none⟩),.pointer (some ⟨ib,0,none⟩)]/\aq W ib 3 [.int .i64 i])\/
 (∃i ib,i<8/\k=i+10/\v= .func (.func 179) #[] #[.pointer (some ⟨pb,0,none⟩),.pointer (some ⟨ib,0,none⟩)]/\aq W ib 3 [.int .i64 i])
def Yg(xb pb:Nat)(pre:List uq)(e:uq)(W:Wo):Prop:=
 e.k=pre.length/\e.k<18/\sJ W pb e.k e.set/\kX e.k e.get/\W.cell? ⟨xb,e.k,none⟩=some (.int (fy e.k) e.get)
def nL(w:Wo)(b j:Nat)(u:Va):aG (λx=>x=b) w (w.setCell (an b j) u):=aG.setCell (S:=λx=>x=b) (aG.refl _ w) (λ_=>rfl) u
def sJ.aL{W' :Wo}{v:Va}(h:sJ W pb k v)(hc:∀b cs,aq W b 3 cs->aq W' b 3 cs):sJ W' pb k v:=by
 obtain h|h|⟨i,ib,h1,h2,h3,h4⟩|⟨i,ib,h1,h2,h3,h4⟩:=h
 .exact .inl h
 .exact .inr (.inl h)
 .exact .inr (.inr (.inl ⟨i,ib,h1,h2,h3,hc _ _ h4⟩))
 .exact .inr (.inr (.inr ⟨i,ib,h1,h2,h3,hc _ _ h4⟩))
def LL(W0:Wo)(l yb ab xb pb:Nat)(S:FV)(J:List uq->Wo->Prop)(hJ:∀pre A C,J pre A->aG (λk=>W0.heap.size<=k) A C->J pre C)
  (hY:∀pre x W1,Yg xb pb pre x W1->J pre W1->YieldAt Fence.wide 1 prog l (E6 x) W1 λe W' =>e= .returned true/\J (pre++[x]) W'/\aG S W1 W')
  (W:Wo) (hy:aq W yb 265 [.func (.yield l) #[] #[]]) (k:Nat) (hk:k<18) (ha:aq W ab 3 [ac (kK k)]) (SQ:W0.heap.size<=ab) (Io:yb≠ab) (hxa:xb≠ab)
  (pre:List uq) (Iu:J pre W) (dh:k=pre.length) (get:Int) (f:Nat) (bx:Zvv) (Bp:∀W',aG (λj=>j=ab) W W'->sJ W' pb k (.func (.func f) #[] bx)) (iO:kX k get) (aH:W.cell? (an xb k)=some (.int (fy k) get)) (hx:xb<W.heap.size) (hSa:¬S ab):
  Calls prog 175 #[ac (ia k),ip get,.func (.func f) #[] bx,li ab,li yb] W λe W' =>e= .returned true/\aq W' ab 3 [ac (kK (k+1))]/\J (pre++[⟨k,get,f,bx⟩]) W'/\aG (λj=>S j\/j=ab) W W' :=by
 have hr:=ln k Mx;have hz:=gP k;have hs:=vg k;have⟨W1,aW⟩:=eX (W.setCell (ol ab) (ac (kK (k+1))));have q1:aG (λj=>j=ab) W W1:=by rw[aW];exact nL _ _ _ _
 have A1:aq W1 ab 3 [ac (kK (k+1))]:=by rw[aW];exact ha.set 0 _
 have Y1:=hy.aL q1 Io;have ec:Yg xb pb pre ⟨k,get,f,bx⟩ W1:=⟨dh,hk,Bp W1 q1,iO,(q1.cell (p:=an xb k) hx hxa).trans aH⟩;have hJ1:=hJ _ _ _ Iu (q1.mono λj _ e=>Mx);have HY:=aa (hY pre _ W1 ec hJ1);have a0:=ha.j0;have f0:=ha.free 0;have y0:=Y1.j0;have a1:=A1.j0;have HA1:=aa A1;have Q1:=aa q1;have Bi:=aa hSa;have w1:wrap64 (kK k+ia k)=kK (k+1):=vW;have w2:wrap64 (kK (k+1) - ia k)=kK k:=vW;have gB:=aa aW.symm;unfold E6 at HY;dsimp only at HY;generalize kK k=p at*;generalize kK (k+1)=p' at*;generalize ia k=z at*;clear hr hz hs ha hy hk SQ Io hxa Iu dh Bp iO aH hx hSa ec hJ1 Y1 A1 q1 aW hJ hY;refine(Qdb (n:=2)).1 ?_;refine Qfc func175 rfl trivial ?_ rfl;simp only[ntmps175,QW,QF,Xq,Nat.reduceAdd,Nat.reduceSub,Xv,Xw,Xx,Xy,QZ,Qaj];gi_upto_region 2 with fail;rw[gB.o];obtain⟨fn,tmps,assign,bd,hy,Nr⟩:=HY.o;gi_wp2;refine Nr.mono ?_;rintro e W3 ⟨rfl,Nu,Nn⟩;have HJ3:=aa Nu;have HC3:=aa Nn;clear hy Nr Nu Nn;gi_wp2;refine Qar (results_tmp (t:=8) rfl _ _ _) rfl ?_;exact⟨rfl,HA1.o.aL HC3.o Bi.o,HJ3.o,Q1.o.iR HC3.o (λx _ h=> .inr h) (λx _ h=> .inl h)⟩
def MW(l yb ab:Nat)(J:List uq->Wo->Prop)(pre:List uq)(W:Wo):Prop:=
 J pre W/\aq W yb 265 [.func (.yield l) #[] #[]]/\aq W ab 3 [.int .i64 (kK pre.length)]
structure ahr(W0:Wo)(l xb pb:Nat)(S:FV)(J:List uq->Wo->Prop):Prop where
 st:∀pre A C,J pre A->aG (λk=>W0<=k) A C->J pre C
 yi:∀pre x W1,Yg xb pb pre x W1->J pre W1->YieldAt Fence.wide 1 prog l (E6 x) W1 λe W' =>e= .returned true/\J (pre++[x]) W'/\aG S W1 W'
 box:∀pre A,J pre A->aq A pb 191 [.pointer (some ⟨xb,0,none⟩)]
 cell:∀pre A,J pre A->∀k,k<18->∃n,kX k n/\A.cell? ⟨xb,k,none⟩=some (.int (fy k) n)
 lt:xb<W0
 slt:∀x,S x->x<W0
def qP{W0:Wo}{l yb ab xb:Nat}{S:FV}{J:List uq->Wo->Prop}(h:ahr W0 l xb pb S J)(SQ:W0<=ab)(Io:W0<=yb)(hya:yb≠ab){pre:List uq}(hs:MW l yb ab J pre W)(k:Nat)(hk:k<18)(dh:k=pre.length)
  (get:Int) (f:Nat) (bx:Zvv) (Bp:∀W',aG (λj=>j=ab) W W'->sJ W' pb k (.func (.func f) #[] bx)) (iO:kX k get) (aH:jp W xb k (.int (fy k) get)):
  Calls prog 175 #[ac (ia k),ip get,.func (.func f) #[] bx,li ab,li yb] W λe W' =>e= .returned true/\(∃x,MW l yb ab J (pre++[x]) W')/\aG (λj=>S j\/j=ab) W W' :=by
 have hxl:=h.lt;refine(LL W0 l yb ab xb pb S J h.st h.yi W hs.2.1 k hk (dh▸hs.2.2) SQ hya Mx pre hs.1 dh get f bx Bp iO aH (Qfx W (an xb k) aH) (λe=>by have:=h.slt _ e;omega)).mono ?_;rintro e W' ⟨rfl,a,j,c⟩;refine⟨rfl,⟨_,j,hs.2.1.aL c ?_,?_⟩,c⟩
 .rintro(e|e)
  .have:=h.slt _ e;omega
  .exact hya e
 .rw[Qo,ZA,<-dh];exact a
def yI(W:Wo)(l xb pb:Nat)(S:FV)(J:List uq->Wo->Prop)(h:ahr W l xb pb S J)(h0:J [] W):
  Calls prog 174 #[.func (.yield l) #[] #[],li pb] W λe W' =>(∃v,e= .returned v)/\∃pre,pre.length=18/\J pre W' :=by
 have H:=aa h;obtain⟨W2,cE⟩:∃y,y=(W.alloc (.cells #[.func (.yield l) #[] #[]] 265)).alloc (.cells #[ac 0] 3):=⟨_,rfl⟩;have c2:ci W W2:=zbz;have S2:Af (MW l W (W.heap.size+1) J [] W2):=by
  refine⟨h.st _ _ _ h0 (aG.aZ c2),?_,?_⟩
  .rw[cE];exact dx W _ _
  .rw[cE];exact cL W _ _
 have Tb:=aa cE.symm;clear cE c2 h0 h;go_in;go_upto_region 3 with fail;rw[Tb.o];obtain⟨n0,hf0,q0⟩:=H.o.cell _ _ S2.p1 0 Fd;have p0:=(H.o.box _ _ S2.p1).j0;have q0' :W2.cell? xb=some (ip n0):=q0;have Te:Af (Calls prog 175 #[ac 8,ip n0,.func (.func 176) #[] #[li pb],li (W.heap.size+1),li W] W2 λe W' =>e= .returned true/\(∃x,MW l W (W.heap.size+1) J ([]++[x]) W')/\aG (λj=>S j\/j=W.heap.size+1) W2 W'):=
  qP H.o (Q0 _) go Mx S2.o 0 Fd rfl n0 _ _ (λW' _=> .inl ⟨rfl,rfl⟩) hf0 q0
 clear q0 hf0;go_upto_region 4 with(first
  |(go_at_call 175;(with_reducible refine Te.o.mono ?_);rintro e W3 ⟨rfl,⟨x0,s3⟩,-⟩;have S3:=aa s3;obtain⟨n1,Nk,q1⟩:=H.o.cell _ _ s3.1 1 Fd;have p1:=(H.o.box _ _ s3.1).j0;have q1' :W3.cell? (an xb 1)=some (gc n1):=q1;have nZ:IntKind.u64.wrap n1=n1:=yD Nk;
    have HN2:Af (Calls prog 175 #[ac 4,ip n1,.func (.func 177) #[] #[li pb],li (W.heap.size+1),li W] W3 λe W' =>e= .returned true/\(∃x,MW l W (W.heap.size+1) J (([]++[x0])++[x]) W')/\aG (λj=>S j\/j=W.heap.size+1) W3 W'):=(qP H.o (Q0 _) go Mx S3.o 1 Fd rfl n1 _ _ (λW' _=> .inr (.inl ⟨rfl,rfl⟩)) Nk q1);clear s3 q1 Nk)
  |(go_at_call 175;(with_reducible refine HN2.o.mono ?_);rintro e W4 ⟨rfl,⟨x1,s4⟩,-⟩;have S4:=aa s4;clear s4))
 have HS0:Af (∃pre:List uq,pre.length=2/\MW l W (W.heap.size+1) J pre W4):=⟨_,rfl,S4.o⟩;clear p0 q0' Te p1 q1' nZ HN2 S3 S4 S2;go_wp2_with fail;go_loopw [27] (λi wr=>∃k:Nat,i= ac k/\Af (k<=8/\∃pre:List uq,pre.length=2+k/\MW l W (W.heap.size+1) J pre wr)) (λi _=>8 - (intOf i).toNat)
 .exact⟨0,rfl,Fd,HS0.o⟩
 .obtain⟨k,rfl,HR⟩:=hrel;by_cases aJ:k<8
  .obtain⟨-,pre,dh,cO⟩:=HR.o;have hi:(k:Int)<8:=(by omega);have ml:(0:Int)<=k:=Mx;have Ng:=aJ;have fp:wrap64 ((k:Int)+1)=(k:Int)+1:=vW;obtain⟨W5,j6,Sy,qd⟩:=nW wr [ac k] 3;have AP:MW l W (W.heap.size+1) J pre W5:=⟨H.o.st _ _ _ cO.1 (aG.aZ qd),cO.2.1.on qd,cO.2.2.on qd⟩;have NZ:MW l W (W.heap.size+1) J pre W5.drew:=⟨H.o.st _ _ _ AP.1 (aG.refl _ W5).drew,AP.2.1,AP.2.2⟩;obtain⟨n,hf,q⟩:=H.o.cell _ _ AP.1 (2+k) Mx;have p5:=(H.o.box _ _ AP.1).j0;have i5:=Sy.j0;have Ee:fy (2+k)= .u32:=(by unfold fy;rw[Xd Mx,Xo Mx]);have cz:ia (2+k)=4:=(by unfold ia;rw[Xd Mx,Xo Mx]);have Tt:=yD hf;have bT:wr.heap.size≠W.heap.size+1:=(by have:=cO.2.2.lt;omega);have hN:=qP H.o (Q0 _) go Mx (W:=W5.drew) NZ (2+k) Mx Mx n 178 #[li pb,li wr] (λW' hc=> .inr (.inr (.inl ⟨k,_,Ng,Qcm _ _,rfl,(show aq W5.drew _ _ _ from Sy).aL hc bT⟩))) hf q;rw[cz] at hN;rw[Ee] at q;have HN:=aa hN;have zb:=aa j6.symm;have bj:=aa aJ;have eu:=aa fp;have za:=aa dh;clear hN Ee cz hf AP NZ cO qd Sy j6 aJ dh bT HR;go_upto_region 7 with fail;rw[zb.o];refine Qat 9 KJ KJ ?_;simp only[Zw,Zq,Zk,Zl];change wpStill _ _ (World.drew W5) (λa' =>wpList _ _ _ _ a' (World.drew W5)) _ _;(repeat still_step);refine Qdf ?_;go_wp2_with(go_at_call 175;refine HN.o.mono ?_;rintro e W6 ⟨rfl,⟨x,s6⟩,-⟩;have S6:=aa s6;clear s6);go_roundw
   .exact⟨k+1,xh,bj.o,_,by rw[Qo,za.o];rfl,S6.o⟩
   .exact wn
  .have hi:¬(k:Int)<8:=(by omega);have hk:k=8:=zdA;subst hk;have HS1:=aa HR.q1;clear HR aJ HS0;go_wp2_with fail;go_loopw [42] (λi wr=>∃k:Nat,i= ac k/\Af (k<=8/\∃pre:List uq,pre.length=10+k/\MW l W (W.heap.size+1) J pre wr)) (λi _=>8 - (intOf i).toNat)
   .exact⟨0,rfl,Fd,HS1.o⟩
   .obtain⟨k,rfl,HR⟩:=hrel;by_cases aJ:k<8
    .obtain⟨-,pre,dh,cO⟩:=HR.o;have hi:(k:Int)<8:=(by omega);have ml:(0:Int)<=k:=Mx;have Ng:=aJ;have fp:wrap64 ((k:Int)+1)=(k:Int)+1:=vW;obtain⟨W5,j6,Sy,qd⟩:=nW wr [ac k] 3;have AP:MW l W (W.heap.size+1) J pre W5:=⟨H.o.st _ _ _ cO.1 (aG.aZ qd),cO.2.1.on qd,cO.2.2.on qd⟩;have NZ:MW l W (W.heap.size+1) J pre W5.drew:=⟨H.o.st _ _ _ AP.1 (aG.refl _ W5).drew,AP.2.1,AP.2.2⟩;obtain⟨n,hf,q⟩:=H.o.cell _ _ AP.1 (10+k) Mx;have p5:=(H.o.box _ _ AP.1).j0;have i5:=Sy.j0;have Ee:fy (10+k)= .u64:=(by unfold fy;rw[Xd Mx,Xd Mx]);have cz:ia (10+k)=8:=(by unfold ia;rw[Xd Mx,Xd Mx]);have bT:wr.heap.size≠W.heap.size+1:=(by have:=cO.2.2.lt;omega);have hN:=qP H.o (Q0 _) go Mx (W:=W5.drew) NZ (10+k) Mx Mx n 179 #[li pb,li wr] (λW' hc=> .inr (.inr (.inr ⟨k,_,Ng,Qcm _ _,rfl,(show aq W5.drew _ _ _ from Sy).aL hc bT⟩))) hf q;rw[cz] at hN;rw[Ee] at q;have HN:=aa hN;have zb:=aa j6.symm;have bj:=aa aJ;have eu:=aa fp;have za:=aa dh;clear hN Ee cz hf AP NZ cO qd Sy j6 aJ dh bT HR;go_upto_region 12 with fail;rw[zb.o];refine Qat 8 KJ KJ ?_;simp only[Zw,Zq,Zk,Zl];change wpStill _ _ (World.drew W5) (λa' =>wpList _ _ _ _ a' (World.drew W5)) _ _;(repeat still_step);refine Qdf ?_;go_wp2_with(go_at_call 175;refine HN.o.mono ?_;rintro e W6 ⟨rfl,⟨x,s6⟩,-⟩;have S6:=aa s6;clear s6);go_roundw
     .exact⟨k+1,xh,bj.o,_,by rw[Qo,za.o];rfl,S6.o⟩
     .exact wn
    .have hi:¬(k:Int)<8:=(by omega);have hk:k=8:=zdA;subst hk;have j2:=aa HR.q1;clear HR aJ HS1;go_wp2_with fail;go_end0;obtain⟨pre,h1,h2⟩:=j2.o;exact⟨⟨_,rfl⟩,pre,h1,h2.1⟩
variable{s:aN}
def aP(s:aN):List Va:= .int .u64 s.gen:: .int .u32 s.blocks::(s.roots.map (.int .u32)++s.marks.map (.int .u64))
structure bM(s:aN):Prop where
 r8:s.roots.length=8
 m8:s.marks.length=8
 g:bI s.gen
 b:bX s.blocks
 r:∀x∈s.roots,bX x
 m:∀x∈s.marks,bI x
def wR(s:aN):List Int:=s.gen::s.blocks::(s.roots++s.marks)
def bK(h:bM s):(aP s).length=18:=by simp[aP,h.r8,h.m8]
def uV(h:bM s)(k:Nat)(hk:k<18):(aP s)[k]? =some (.int (fy k) ((wR s).getD k 0)):=by
 unfold aP wR fy
 match k with
 |0=>rfl
 |1=>rfl
 |k+2=>
  rw[Xd Mx,Qcz,Qcz,Qbj,Qbj];by_cases h8:k<8
  .rw[Xo Mx,QN (by rw[Qq,h.r8];exact h8),Qe,QN (h.r8▸h8),Qt,Qf (h.r8▸h8)];rfl
  .rw[Xd Mx,QM (by rw[Qq,h.r8];omega),Qq,Qe,QM (by rw[h.r8];omega),Qt,Qf (by rw[h.m8,h.r8];omega)];rfl
def xP(h:bM s)(k:Nat)(hk:k<18):kX k ((wR s).getD k 0):=by
 unfold kX wR ia
 match k with
 |0=>exact h.g
 |1=>exact h.b
 |k+2=>
  rw[Xd Mx,Qbj,Qbj,Qe];by_cases h8:k<8
  .rw[Xo Mx,QN (h.r8▸h8),Qf (h.r8▸h8)];exact h.r _ (QI _)
  .rw[Xd Mx,QM (by rw[h.r8];omega),Qf (by rw[h.m8,h.r8];omega)];exact h.m _ (QI _)
def jI(s:aN):∀u∈aP s,u.oneCell' =true:=by
 intro u hu;unfold aP at hu;obtain rfl|hu:=QA.1 hu
 .rfl
 .rcases QA.1 hu with rfl|hu
  .rfl
  .rcases Qz.1 hu with hu|hu<;>exact dW _ _ u hu
def VJ(w:Wo)(xb:Nat)(b r:Int)(h:jp w xb 1 (gc b)):
  Calls prog 172 #[gc r,xb] w (iF (.bool (decide (b<=r))) λw' =>w=w') :=by
 go_in;go_wp2;exact vl
def Gr(w:Wo)(xb:Nat)(b:Int)(h:jp w xb 1 (gc b))(l:Fr)(hl:l.length=8)(hc:∀j,j<8->jp w xb (2+j) (gc (l.getD j 0))):
  Calls prog 216 #[el xb 2 8 8,.func (.func 172) #[] #[xb]] w λe w' =>(∃k:Int,e= .returned (ac k)/\decide (0<=k)=l.any (λr=>decide (b<=r)))/\w=w' :=by
 have HF:=aa (λr=>VJ w xb b r h);clear h;change Af _ at hc hl;go_in;go_wp2;go_loop [8] (λi=>∃k:Nat,i= ac k/\Af (k<=8/\(l.take k).any (λr=>decide (b<=r))=false)) (λi=>8 - (intOf i).toNat)
 .exact⟨0,rfl,Fd,rfl⟩
 .obtain⟨k,rfl,HR⟩:=hrel;by_cases aJ:k<8
  .have hi:(k:Int)<8:=(by omega);have ml:(0:Int)<=k:=Mx;have Ng:=aJ;have fp:wrap64 ((k:Int)+1)=(k:Int)+1:=vW;have⟨r,hr⟩:=eX (l.getD k 0);have y0:=hc.o k aJ;rw[<-hr] at y0;have hre:l[k]? =some r:=(by rw[hr,Qe,Qf (hl.o▸aJ)];rfl);obtain⟨eu,EM,Hi0⟩:=qC fp (HF.o r) ml;clear hr;change Af _ at hre aJ;by_cases e8:b<=r
   .have Hbr:=aa e8;rw[Xa e8] at EM;clear e8;go_wp2_with(go_at_call 172;refine PP EM.o ?_);go_ret;refine⟨⟨k,rfl,?_⟩,rfl⟩;rw[Xa Hi0.o];symm;rw[Xb];exact⟨r,Qi hre.o,Xa Hbr.o⟩
   .have Hbr:=aa e8;rw[Xe e8] at EM;clear e8;go_wp2_with(go_at_call 172;refine PP EM.o ?_);go_round
    .refine⟨k+1,xh,aJ.o,?_⟩;rw[aA _ _ _ hre.o,List.any_append,HR.q1,Qgu,Xe (by have:=Hbr.o;omega)];rfl
    .exact zdX
  .have hi:¬(k:Int)<8:=(by omega);have hk:k=8:=zdA;subst hk;have fF:=aa HR.q1;rw[Qj (hl.o▸go)] at fF;clear HR aJ;go_wp2;go_ret;exact⟨⟨-1,rfl,by rw[fF.o];rfl⟩,rfl⟩
def Gs(w:Wo)(xb:Nat)(b:Int)(h:jp w xb 1 (gc b))(l:Fr)(hl:l.length=8)(hc:∀j,j<8->jp w xb (2+j) (gc (l.getD j 0))):
  Calls prog 173 #[el xb 2 8 8,.func (.func 172) #[] #[xb]] w (iF (.bool (l.any (λr=>decide (b<=r)))) λw' =>w=w') :=by
 have HI:=aa (Gr w xb b h l hl hc);clear h hl hc;go_in;go_wp2_with(go_at_call 216;refine HI.o.mono ?_;rintro e W2 ⟨⟨k,rfl,hk⟩,rfl⟩;have Hk:=aa hk;clear hk);go_ret;exact⟨jK Hk.o,rfl⟩
def DV(l:Fr)(b:Int):(l.all λr=>decide (r<b))= !(l.any λr=>decide (b<=r)):=by
 induction l with
 |nil=>rfl
 |cons x r ih=>
  rw[Qce,Qgu,ih,Bool.not_or];congr 1;rw[<-decide_not];exact decide_eq_decide.2 Mx
def vB(w:Wo)(s:aN)(h:bM s):
  Calls prog 105 #[.agg (aP s).toArray] w (iF (.bool (nm s)) λw' =>ci w w') :=by
 have⟨C,hC⟩:=eX (aP s);have⟨W1,aW⟩:=eX (w.alloc (.cells C.toArray 60));have⟨xb,eD⟩:=eX w.heap.size;have X1:aq W1 xb 60 C:=by rw[aW,eD];exact ar _ _ _
 have B1:Af (ci w W1):=aW▸(aF _ _);have x0:W1.cell? xb=some (ip s.gen):=X1.cell (by rw[hC];rfl);have x1:W1.cell? (an xb 1)=some (gc s.blocks):=X1.cell (by rw[hC];rfl);have HF:=aa (Gs W1 xb s.blocks x1 s.roots h.r8 (λj hj=>X1.cell (by rw[hC,uV h (2+j) Mx];unfold fy wR;rw[Xd Mx,Xo Mx,show 2+j=(j+1)+1 by omega,Qbj,Qbj,Qe,QN (by rw[h.r8];exact hj),<-Qe])));have gB:=aa aW.symm;have xD:=aa eD.symm;rw[<-hC];rw[nm,DV];generalize s.roots.any (λr=>decide (s.blocks<=r))=a at*;generalize s.gen=g at*;generalize s.blocks=b at*;clear X1 hC aW eD h;by_cases h1:0<g
 .by_cases h2:16<=b
  .by_cases h3:b<=4096
   .rw[Xa h1,Xa h2,Xa h3];go_in;go_upto_region 1 with fail;rw[gB.o,xD.o];go_wp2_with(go_at_call 173;refine HF.o.mono ?_;rintro e W2 ⟨rfl,rfl⟩);go_ret;exact⟨rfl,B1.o⟩
   .rw[Xa h1,Xa h2,Xe h3];go_in;go_upto_region 1 with fail;exact zeO
  .rw[Xa h1,Xe h2];go_in;go_upto_region 1 with fail;exact zeO
 .rw[Xe h1];go_in;go_upto_region 1 with fail;exact zeO
def getL_pre(pre:Fr)(k:Nat)(n:Int)(rest:Fr)(h0:0<=n)(h1:n<256^k):cK (pre++(mH k n++rest)) pre.length k=n:=by rw[cK,Qei,Qcv (de k n)];exact ofBe_beN k n h0 h1
def getL_flat(pre:Fr)(k:Nat)(l:Fr)(rest:Fr)(hl:∀x∈l,0<=x/\x<256^k)(i:Nat)(hi:i<l.length):cK (pre++(l.flatMap (mH k)++rest)) (pre.length+k*i) k=l[i]:=by
 have hlen:(l.flatMap (mH k)).length=k*l.length:=by rw[Qcj];have:(l.map λa=>(mH k a).length)=l.map λ_=>k:=Zj λx _=>de k x;rw[this];simp[Qib,Qdi]
 have hle:=Qex k (QX hi);rw[cK,<-Qav,Qei,Qeq Mx,flat_drop (mH k) k (λx=>de k x),Zd hi,QH,QY,Qcv (de k _)];have:=hl _ (QI hi);exact ofBe_beN k _ this.1 this.2
def flat_len(k:Nat)(l:Fr):(l.flatMap (mH k)).length=k*l.length:=by rw[Qcj];have:(l.map λa=>(mH k a).length)=l.map λ_=>k:=Zj λx _=>de k x;rw[this];simp[Qib,Qdi]
def bodyXL(h:bM s):(qx s).length=123:=by unfold qx;simp only[Qo,de,flat_len,h.r8,h.m8,QK]
def decX_encX(h:bM s)(hr:nm s=true):kA (J7 s)=some s:=by
 have hl:=bodyXL h;have⟨R,hR⟩:=eX (s.roots.flatMap (mH 4));have⟨M,hM⟩:=eX (s.marks.flatMap (mH 8));have⟨Z,hZ⟩:=eX (replicate 7 (0:Int));have hRl:R.length=32:=by rw[hR,flat_len,h.r8]
 have hMl:M.length=64:=by rw[hM,flat_len,h.m8]
 have hZl:Z.length=7:=by rw[hZ];rfl
 have hb:qx s=mH 8 s.gen++(mH 4 s.blocks++(R++(M++(Z++mH 8 s.gen)))):=by rw[qx,hR,hM,hZ];simp only[QY]
 have g0:=h.g;have b0:=h.b;unfold bI at g0;unfold bX at b0;have e1:cK (qx s) 0 8=s.gen:=hb▸(getL_pre [] 8 _ _ g0.1 (by have:=g0.2;omega));have e2:cK (qx s) 8 4=s.blocks:=by rw[hb];have:=getL_pre (mH 8 s.gen) 4 s.blocks (R++(M++(Z++mH 8 s.gen))) b0.1 (by have:=b0.2;omega);rwa[de] at this
 have e3:cK (qx s) 115 8=s.gen:=by
  have e:qx s=(mH 8 s.gen++mH 4 s.blocks++R++M++Z)++(mH 8 s.gen++[]):=by rw[hb];simp
  have h1:=getL_pre (mH 8 s.gen++mH 4 s.blocks++R++M++Z) 8 s.gen [] g0.1 (by have:=g0.2;omega);rw[<-e] at h1;have h2:(mH 8 s.gen++mH 4 s.blocks++R++M++Z).length=115:=by simp[de,hRl,hMl,hZl]
  rwa[h2] at h1
 have e4:(range 8).map (λi=>cK (qx s) (12+4*i) 4)=s.roots:=by
  refine Qaf (by simp[h.r8]) λi h1 h2=> ?_;rw[Qah,Qbp];have h3:=getL_flat (mH 8 s.gen++mH 4 s.blocks) 4 s.roots (M++(Z++mH 8 s.gen)) (λx hx=>by have:=h.r x hx;unfold bX at this;omega) i h2;rw[<-hR] at h3;have h4:(mH 8 s.gen++mH 4 s.blocks).length=12:=by simp[de]
  rw[h4,QY,<-hb] at h3;exact h3
 have e5:(range 8).map (λi=>cK (qx s) (44+8*i) 8)=s.marks:=by
  refine Qaf (by simp[h.m8]) λi h1 h2=> ?_;rw[Qah,Qbp];have h3:=getL_flat (mH 8 s.gen++mH 4 s.blocks++R) 8 s.marks (Z++mH 8 s.gen) (λx hx=>by have:=h.m x hx;unfold bI at this;omega) i h2;rw[<-hM] at h3;have h4:(mH 8 s.gen++mH 4 s.blocks++R).length=44:=by simp[de,hRl]
  have h5:(mH 8 s.gen++mH 4 s.blocks++R)++(M++(Z++mH 8 s.gen))=qx s:=by rw[hb];simp
  rw[h4,h5] at h3;exact h3
 have e6:gI (qx s)=s:=by rw[gI,e1,e2,e4,e5]
 have e7:(((qx s).drop 108).take 7).all (·<=0)=true:=by
  have e:qx s=(mH 8 s.gen++mH 4 s.blocks++R++M)++(Z++mH 8 s.gen):=by rw[hb];simp
  have h2:(mH 8 s.gen++mH 4 s.blocks++R++M).length=108:=by simp[de,hRl,hMl]
  rw[e,Qdl h2,Qcv hZl,hZ];decide
 unfold kA J7;rw[open_seal 6 (qx s) Mx,hl,show 123 - 123=0 by rfl,Qcx,Zi];simp only;rw[e6,e1,e3];exact Xo ⟨trivial,e7,rfl,hr⟩
def pick_new{p0 p1:Fr}{x:aN}{slot:Nat}(hs:slot<=1)(hp:x.gen%2=slot)(hx:kA (if slot=0 then p0 else p1)=some x)(h0:0<x.gen)(ho:∀y,kA (if slot=0 then p1 else p0)=some y->y.gen<x.gen):qu p0 p1=some x:=by
 unfold qu;have hz:¬x.gen=0:=Mx;obtain h|h:=Qae slot 1
 .have lz:slot=0:=by omega
  subst lz;simp only[Qdx] at hx ho;have b0:nh 0 p0 ⟨0,0,replicate 8 0,replicate 8 0⟩=x:=by rw[nh,hx];exact Xo ⟨Mx,h0⟩
  have b1:nh 1 p1 x=x:=by
   unfold nh;cases hd:kA p1 with
   |none=>rfl
   |some y=>exact Xd λh=>by have:=ho y hd;omega
  rw[b0,b1];exact Xd hz
 .have Ip:slot=1:=by omega
  subst Ip;simp only[Nat.one_ne_zero,Qgf] at hx ho;have⟨b,hb⟩:=eX (nh 0 p0 ⟨0,0,replicate 8 0,replicate 8 0⟩);have fg:b.gen<x.gen:=by
   rw[hb];unfold nh;cases hd:kA p0 with
   |none=>exact h0
   |some y=>
    dsimp only;split
    .exact ho y hd
    .exact h0
  have b1:nh 1 p1 b=x:=by rw[nh,hx];exact Xo ⟨Mx,fg⟩
  rw[<-hb,b1];exact Xd hz
variable{aO:Array Bool}{f i:Nat}{o oi:Oper}{v:Va}{a:Act}{w:Wo}{rs:GT}{ops:LC}{Q:Mp}{md:Region.Mode}{S:Wo -> Prop}{T:Nat -> Bool}
section
def eF(P:ST)(md:Region.Mode)(ops:LC)(Q:Mp)(S:Wo->Prop)(T:Nat->Bool):Nat->Array Bool->Act->Wo->Prop
 |0,aO,a,w=>Region.ready md ops aO=[]/\Q .normal a w
 |f+1,aO,a,w=>(Region.ready md ops aO=[]->Q .normal a w)/\∀i∈Region.ready md ops aO,wpOp P ops Q i (λa' w' =>(T i=false->S w')/\eF P md ops Q S T f (aO.setIfInBounds i true) a' w') a w
def vo:∀(f:Nat) (aO:Array Bool) (a:Act) (w:Wo),eF P md ops Q S T f aO a w->wpAny P md ops Q f aO a w
 |0,_,_,_,h=>h
 |f+1,_,_,_,h=>⟨h.1,λi hi=>Qgk (λa' w' h' =>vo f _ a' w' h'.2) (h.2 i hi)⟩
def Clo(md:Region.Mode)(ops:LC)(aO:Array Bool):Prop:=∀j oj,ops[j]? =some oj->aO.getD j false=true->∀e∈oj.after,Region.binds md e=true->aO.getD e.on false=true
def abk(md:Region.Mode)(ops:LC)(aO:Array Bool):Bool:=
 (range ops.size).all λj=> !(aO.getD j false)||match ops[j]? with
  |some oj=>oj.after.all λe=> !(Region.binds md e)||aO.getD e.on false
  |none=>true
def acn(h:abk md ops aO=true):Clo md ops aO:=by intro j oj hj hl e he hb;have h1:=XT.1 h j (Zm.2 (Qy.1 hj).1);simp only[hl,hj,Bool.not_true,Qjd] at h1;have h2:=Array.all_eq_true_iff_forall_mem.1 h1 e he;simpa[hb] using h2
def Clo.set(h:Clo md ops aO)(hi:i∈Region.ready md ops aO):Clo md ops (aO.setIfInBounds i true):=by
 obtain⟨-,oi,hoi,bm⟩:=mem_ready.1 hi;intro j oj hj hl e he hb;by_cases wJ:i=j
 .subst wJ;rw[hoi] at hj;cases hj;exact getD_set_true (bm e he hb)
 .rw[getD_set_ne false wJ] at hl;exact getD_set_true (h j oj hj hl e he hb)
def BD(md:Region.Mode)(ops:LC):Nat->Nat->Nat->Bool
 |0,_,_=>false
 |f+1,j,i=>(range ops.size).any λk=>Region.waitsFor md ops j k&&(k==i||BD md ops f k i)
def Vn(hc:Clo md ops aO)(hi:aO.getD i false=false):∀(f j:Nat),BD md ops f j i=true->aO.getD j false=false/\j∉Region.ready md ops aO:=by
 intro f;induction f with
 |zero=>intro j h;cases h
 |succ f ih=>
  intro j h;obtain⟨k,-,h2⟩:=Xb.1 h;simp only[XR,Qgd,Qbq] at h2;have hk:aO.getD k false=false:=by
   obtain rfl|h3:=h2.2
   .exact hi
   .exact(ih k h3).1
  obtain⟨oj,hoj,e,he,hb,hon⟩:=Region.waitsFor_spec h2.1;constructor
  .cases hl:aO.getD j false with
   |false=>rfl
   |true=>
    have:=hc j oj hoj hl e he hb;rw[hon,hk] at this;cases this
  .intro hr;obtain⟨-,o',ho',bm⟩:=mem_ready.1 hr;rw[hoj] at ho';cases ho';have:=bm e he hb;rw[hon,hk] at this;cases this
def zT{m:Nat}(hi:ops[i]? =some oi)(agd:∀(j:Nat) (o:Oper) cs b,ops[j]? =some o->o.op≠ .select cs b)
  (hQ:∀c a w,Q (.panic c) (a.put oi.dst v) w->Q (.panic c) a w) (hT:∀j,T j=true->BD md ops m j i=true):
  ∀(f:Nat) (aO:Array Bool) (a:Act) (w:Wo),Clo md ops aO->
   (∀j oj,ops[j]? =some oj->j≠i->aO.getD j true=false->(∀e∈oj.after,Region.binds md e=true->e.on≠i)->oi.apart ops oj=true)->
   i∈Region.ready md ops aO->YieldsIf P ops S oi v a->S w->
   eF P md ops Q S T f (aO.setIfInBounds i true) (a.put oi.dst v) w->eF P md ops Q S T (f+1) aO a w:=by
 intro f;induction f with
 |zero=>
  intro aO a w _ _ hr hy hS H;refine⟨λh=>zbN,λj hj=> ?_⟩;by_cases TB:j=i
  .subst TB;exact hy.wpOp hi hS ⟨λ_=>hS,H⟩
  .have:=Qgm hj TB;rw[H.1] at this
   cases this
 |succ f ih=>
  intro aO a w agN BK hr hy hS H;refine⟨λh=>zbN,λj hj=> ?_⟩;by_cases TB:j=i
  .subst TB;exact hy.wpOp hi hS ⟨λ_=>hS,H⟩
  .have hun:=(mem_ready.1 hr).1;have hTj:T j=false:=by
    cases h:T j with
    |false=>rfl
    |true=>exact zgc
   have h1:=H.2 j (Qgm hj TB);obtain⟨agA,oj,hoj,bm⟩:=mem_ready.1 hj;have N3:∀e∈oj.after,Region.binds md e=true->e.on≠i:=λe he hb heq=>by
    have h3:=bm e he hb;rw[heq,getD_both hun] at h3
    cases h3
   have h2:=wpOp_putIf hoj (BK j oj hoj TB agA N3) (λcs b=>agd i oi cs b hi) (λcs b=>agd j oj cs b hoj) hQ hy h1;refine Qgk (λa' w' h3=> ?_) h2;have hSw:=h3.2.1 hTj;refine⟨λ_=>hSw,ih (aO.setIfInBounds j true) a' w' (agN.set hj) (λk ok hk AA agw JJ=> ?_) (Qgm hr (Xm TB)) h3.1 hSw ?_⟩
   .refine BK k ok hk AA ?_ JJ;by_cases hjk:j=k
    .subst hjk;exact agA
    .rw[getD_set_ne true hjk] at agw;exact agw
   .rw[Qix _ _ TB];exact h3.2.2
def aK(dst:Option Tmp)(hi:ops[i]? =some oi)(hd:oi.dst=dst)
  (hB:(Region.noSelect ops&&Region.free md ops aO i&&(Region.ready md ops aO).contains i&&abk md ops aO)=true)
  (hT:∀j,T j=true->BD md ops ops.size j i=true)
  (hQ:∀c a w,Q (.panic c) (a.put dst v) w->Q (.panic c) a w) (hy:YieldsIf P ops S oi v a) (hS:S w)
  (h:eF P md ops Q S T f (aO.setIfInBounds i true) (a.put dst v) w):eF P md ops Q S T (f+1) aO a w:=by
 subst hd;simp only[XR] at hB;obtain⟨⟨⟨b1,b2⟩,b3⟩,b4⟩:=hB;exact zT hi (Qgo b1) hQ hT f aO a w (acn b4) (Qih hi b2) zdN hy hS h
def cT(P:ST)(md:Region.Mode)(ops:LC)(Q:Mp)(S:Wo->Prop)(T:Nat->Bool)(f:Nat)(aO:Array Bool)(a:Act)(w:Wo)(rs:GT):Prop:=
 ∀i∈rs,wpOp P ops Q i (λa' w' =>(T i=false->S w')/\eF P md ops Q S T f (aO.setIfInBounds i true) a' w') a w
def cT.nil:cT P md ops Q S T f aO a w []:=λ_ h=>by cases h
def cT.cons(ho:ops[i]? =some o)
  (h:∀K' :Act->Wo->Prop,Shut (∀a w,(T i=false->S w)->eF P md ops Q S T f (aO.setIfInBounds i true) a w->K' a w)->if Region.wanted o (yielded ops a.tmps)=true then Oper.wp P o a w K' Q else K' (a.put o.dst undef) w)
  (hs:cT P md ops Q S T f aO a w rs):cT P md ops Q S T f aO a w (i::rs):=λj hj=>by
 obtain rfl|hj:=QA.1 hj
 .exact Qis ho (λK' hK=>h K' (λa w hS hW=>hK a w ⟨hS,hW⟩))
 .exact hs j hj
def ma(hr:Region.ready md ops aO=rs)(bT:rs≠[])
  (h:cT P md ops Q S T f aO a w rs):eF P md ops Q S T (f+1) aO a w:=⟨λh0=>absurd (hr▸h0) bT,hr▸h⟩
def bD(hr:Region.ready md ops aO=[])(h:Q .normal a w):∀f,eF P md ops Q S T f aO a w
 |0=>⟨hr,h⟩
 |_+1=>⟨λ_=>h,by rw[hr];simp⟩
def gM{w' :Wo}{E:Prop}{K:Act->Wo->Prop}(dst:Option Tmp)(hd:o.dst=dst)(hw:Region.wanted o (yielded ops a.tmps)=true)(h:(execOp a.eval o).run P w= .ok (.value v) w')(hk:K (a.put dst v) w'):
  if Region.wanted o (yielded ops a.tmps)=true then Oper.wp P o a w K Q else E:=by
 subst hd;rw[Xo hw];rw[Oper.wp,h];exact hk
def fP{Ts:GT}{p:Nat->Bool}(h:Ts.all p=true):∀j,Ts.contains j=true->p j=true:=λj hj=>XT.1 h j zaU
def bL{id:Nat}(T:Nat->Bool)(S:Wo->Prop)(hm:P.follows .mixedOrders=true)
  (h:eF P .any ops Q S T ops.size (Array.replicate ops.size false) a w.drew):(Code.region id ops true).wp P Q a w:=
 wp_region_any hm (vo _ _ _ _ h)
end
variable{k1 k2 k3 k4 k5:Nat}{Ts:GT}
section
def bJ{i:Nat}{K:Act->Wo->Prop}(ho:ops[i]? =some o)(h:∀K' :Act->Wo->Prop,Shut (∀a w,K a w->K' a w)->if Region.wanted o (yielded ops a.tmps)=true then Oper.wp P o a w K' Q else K' (a.put o.dst undef) w):wpOp P ops Q i K a w:=Qis ho h
def tK(i:Nat)(d:Tmp)(v:Va)(hi:ops[i]? =some oi)(hd:oi.dst=some d)(hw:Region.wanted oi (yielded ops a.tmps)=true)
  (hB:((Region.noSelect ops&&Region.free md ops aO i&&(Region.ready md ops aO).contains i&&abk md ops aO)&&Ts.all λj=>BD md ops ops.size j i)=true)
  (hQ:∀c a w,Q (.panic c) (a.put (some d) v) w->Q (.panic c) a w) (hy:∀W,S W->(execOp a.eval oi).run P W= .ok (.value v) W) (hS:S w)
  (h:eF P md ops Q S (λj=>Ts.contains j) f (aO.setIfInBounds i true) (a.put (some d) v) w):eF P md ops Q S (λj=>Ts.contains j) (f+1) aO a w:=
 aK (some d) hi hd (Bool.and_eq_true_iff.1 hB).1 (fP (Bool.and_eq_true_iff.1 hB).2) hQ (Or.inl ⟨hw,hy⟩) hS h
def tKz(i:Nat)(d:Tmp)(v:Va)(H:(ops[i]? =some oi)/\(oi.dst=some d)/\(Region.wanted oi (yielded ops a.tmps)=true)/\(((Region.noSelect ops&&Region.free md ops aO i&&(Region.ready md ops aO).contains i&&abk md ops aO)&&Ts.all λj=>BD md ops ops.size j i)=true)/\(∀c a w,Q (.panic c) (a.put (some d) v) w->Q (.panic c) a w))
  (hy:∀W,S W->(execOp a.eval oi).run P W= .ok (.value v) W) (hS:S w)
  (h:eF P md ops Q S (λj=>Ts.contains j) f (aO.setIfInBounds i true) (a.put (some d) v) w):eF P md ops Q S (λj=>Ts.contains j) (f+1) aO a w:=
 tK i d v H.1 H.2.1 H.2.2.1 H.2.2.2.1 H.2.2.2.2 hy hS h
def ju(i:Nat)(ho:ops[i]? =some o)(hr:Region.ready md ops aO=[i])
  (h:∀K' :Act->Wo->Prop,Shut (∀a w,(T i=false->S w)->eF P md ops Q S T f (aO.setIfInBounds i true) a w->K' a w)->if Region.wanted o (yielded ops a.tmps)=true then Oper.wp P o a w K' Q else K' (a.put o.dst undef) w):eF P md ops Q S T (f+1) aO a w:=
 ma hr Sv (cT.cons ho h cT.nil)
def dG{k:Nat}(h:k<a.tmps.size):a.put (some k) (a.tmps.getD k undef)=a:=by
 obtain⟨t,d⟩:=a;show(⟨t.setIfInBounds k (t.getD k undef),d⟩:Act)=⟨t,d⟩;congr 1;refine Array.ext_getElem? λi=> ?_;rw[Qhv];split
 .rename_i e
  subst e;have h:=h;rw[Xu h];rfl
 .rfl
def Ux(h:[k1,k2].all (λk=>decide (k<a.tmps.size))=true):a=(a.put (some k1) (a.tmps.getD k1 undef)).put (some k2) (a.tmps.getD k2 undef):=by simp only[Qce,Qgb,Qgx,XR,Qad] at h;rw[dG h.1,dG h.2]
def amO(h:[k1,k2,k3,k4,k5].all (λk=>decide (k<a.tmps.size))=true):a=((((a.put (some k1) (a.tmps.getD k1 undef)).put (some k2) (a.tmps.getD k2 undef)).put (some k3) (a.tmps.getD k3 undef)).put (some k4) (a.tmps.getD k4 undef)).put (some k5) (a.tmps.getD k5 undef):=by simp only[Qce,Qgb,Qgx,XR,Qad] at h;rw[dG h.1,dG h.2.1,dG h.2.2.1,dG h.2.2.2.1,dG h.2.2.2.2]
def avG{k6 k7:Nat}(h:[k1,k2,k3,k4,k5,k6,k7].all (λk=>decide (k<a.tmps.size))=true):a=((((((a.put (some k1) (a.tmps.getD k1 undef)).put (some k2) (a.tmps.getD k2 undef)).put (some k3) (a.tmps.getD k3 undef)).put (some k4) (a.tmps.getD k4 undef)).put (some k5) (a.tmps.getD k5 undef)).put (some k6) (a.tmps.getD k6 undef)).put (some k7) (a.tmps.getD k7 undef):=by simp only[Qce,Qgb,Qgx,XR,Qad] at h;rw[dG h.1,dG h.2.1,dG h.2.2.1,dG h.2.2.2.1,dG h.2.2.2.2.1,dG h.2.2.2.2.2.1,dG h.2.2.2.2.2.2]
def Er(L:Array Bool)(xs ys:GT)(i j:Nat):Array Bool:=(xs.take i++ys.take j).foldl (λl k=>l.setIfInBounds k true) L
def anz(md:Region.Mode)(ops:LC)(L:Array Bool)(xs ys:GT):Bool:=
 (range (xs.length+1)).all λi=>(range (ys.length+1)).all λj=>(i==xs.length&&j==ys.length)||
  (!(Region.ready md ops (Er L xs ys i j)).isEmpty&&(Region.ready md ops (Er L xs ys i j)).all λk=>
   (decide (i<xs.length)&&xs[i]? ==some k&&(Er L xs ys i j).setIfInBounds k true==Er L xs ys (i+1) j)||(decide (j<ys.length)&&ys[j]? ==some k&&(Er L xs ys i j).setIfInBounds k true==Er L xs ys i (j+1)))
def Br(F:Nat->Nat->Prop):Nat->List Nat->Prop
 |_,[]=>True
 |i,k::r=>F i k/\Br F (i+1) r
def Br.get{F:Nat->Nat->Prop}:∀{l:GT} {i j k:Nat},Br F i l->l[j]? =some k->F (i+j) k
 |[],_,_,_,_,h=>zaF
 |x::r,i,0,k,h,e=>by
  obtain rfl:x=k:=zdk;exact h.1
 |x::r,i,j+1,k,h,e=>by have h1:=Br.get (j:=j) h.2 zdk;rwa[XB,Qcm 1 j] at h1
def gR{L:Array Bool}{a0:Act}{w0:Wo}{F:Nat}(xs ys:GT)(I:Act->Nat->Nat->Act->Wo->Prop)(f0:Nat)(hF:F=f0+(xs.length+ys.length))(hc:anz md ops L xs ys=true)(h0:I a0 0 0 a0 w0)
  (hA:Br (λi k=>∀j a w,I a0 i j a w->wpOp P ops Q k (λa' w' =>(T k=false->S w')/\I a0 (i+1) j a' w') a w) 0 xs)
  (hB:Br (λj k=>∀i a w,I a0 i j a w->wpOp P ops Q k (λa' w' =>(T k=false->S w')/\I a0 i (j+1) a' w') a w) 0 ys)
  (hE:∀a w,I a0 xs.length ys.length a w->eF P md ops Q S T f0 (Er L xs ys xs.length ys.length) a w):eF P md ops Q S T F L a0 w0:=by
 subst hF;have key:∀n i j,i<=xs.length->j<=ys.length->n+(i+j)=xs.length+ys.length->∀a w,I a0 i j a w->eF P md ops Q S T (f0+n) (Er L xs ys i j) a w:=by
  intro n;induction n with
  |zero=>
   intro i j hi hj hn a w h;obtain rfl:i=xs.length:=Mx;obtain rfl:j=ys.length:=Mx;exact hE a w h
  |succ n ih=>
   intro i j hi hj hn a w h;have h1:=XT.1 (XT.1 hc i (Zm.2 (Nat.lt_succ_of_le hi))) j (Zm.2 (Nat.lt_succ_of_le hj));simp only[Qgd,XR,Qbq,Qfn,List.isEmpty_eq_false_iff,XT,XS] at h1;rcases h1 with⟨e1,e2⟩|⟨bT,h1⟩
   .omega
   refine⟨λh0=>absurd h0 bT,λk hk=> ?_⟩;rcases h1 k hk with⟨⟨hl,e1⟩,e2⟩|⟨⟨hl,e1⟩,e2⟩
   .have h2:=Br.get hA e1;rw[QR] at h2;refine Qgk (λa' w' h3=>⟨h3.1,?_⟩) (h2 j a w h);rw[e2];exact ih (i+1) j hl hj Mx a' w' h3.2
   .have h2:=Br.get hB e1;rw[QR] at h2;refine Qgk (λa' w' h3=>⟨h3.1,?_⟩) (h2 i a w h);rw[e2];exact ih i (j+1) hi hl Mx a' w' h3.2
 have h1:=key (xs.length+ys.length) 0 0 lm lm Mx a0 w0 h0;exact h1
end
def Ap1(T:Fy)(c1:Ox)(W:Wo)(x y v v0:Va)(f0 f1:Prop):Nat->Prop
 |0=>v=v0/\f0
 |1=>v=v0/\f0/\∃g,x= .slice (some ⟨g,0,none⟩) 1 1/\aq W g T c1
 |_=>v=y/\f1/\∃A n c,y= .slice A n c
def Ap1.mp{T:Fy}{c1:Ox}{W W' :Wo}{x y v v0:Va}{f0 f1:Prop}:∀{i:Nat},Ap1 T c1 W x y v v0 f0 f1 i->(∀g,aq W g T c1->aq W' g T c1)->Ap1 T c1 W' x y v v0 f0 f1 i
 |0,h,_=>h
 |1,⟨e,h,g,h1,h2⟩,hb=>⟨e,h,g,h1,hb g h2⟩
 |_+2,h,_=>h
variable{d pl:Nat}{bl:List (List Int)}{dst:Option Tmp}{x:Operand}{t ty:Fy}{pos:String}{after:Array Edge}{E:Prop}{K:Act -> Wo -> Prop}
def wu(p:Int×List Int):List Va:= .int .i64 p.1::p.2.map (.int .u8)
structure mz(w:Wo)(d pl:Nat)(bl:List (List Int))(base:Nat)(wv:Va)(ws:List (Int×List Int)):Prop where
 own:aq w d 112 (J8 pl bl.length wv)
 eP:aq w pl 200 (bl.flatten.map (.int .u8))
 ne:d≠pl
 size:∀b∈bl,b.length=128
 byte:∀b∈bl,∀x∈b,aI x
 n0:16<=bl.length
 n1:bl.length<=4096
 row:w.ownsRow base 202 129 wv ws.length (ws.flatMap wu)
 YX:∀p∈ws,p.2.length=128/\(∀x∈p.2,aI x)/\0<=p.1/\p.1<bl.length
def cF.wait(h:cF w d pl bl)(base:Nat):mz w d pl bl base () []:=
 ⟨h.own,h.eP,h.ne,h.size,h.byte,h.n0,h.n1,Qbn _ _ _ _,λp hp=>zdh⟩
def lq{f:Operand->Va}(p v:Va)(hx:f x=p)(h:(Instr.loadAt t p).run P w= .ok v w):
  (execOp f ⟨dst,.load t x,ty,pos,after,none⟩).run P w= .ok (.value v) w:=by
 rw[<-hx] at h;simp[execOp,h,Result.andThen]
def rM(w:Wo)(g:Nat)(cs:Ox)(hl:cs.length=129)(h:aq w g 202 cs):
  (Instr.loadAt 202 g).run prog w= .ok (.agg cs.toArray) w:=by
 have h1:=Qay (P:=prog) w (ol g) cs (λj v hj=>zaG);simp only[hl] at h1;have h2:(isAgg 202).run prog w= .ok true w:=KJ;have h3:(sizeOf 202).run prog w= .ok 129 w:=KJ;have h4:(Instr.sureAddr g).run prog w= .ok (ol g) w:=rfl;exact zeR
def kF{B b:Nat}{a:Wo}(hb:B<=b):∀(vs:Ox) (o:Nat) (w:Wo),Below B a w->Below B a (w.setCells b o vs)
 |[],_,_,h=>h
 |v::r,o,_,h=>kF hb r (o+1) _ (h.setCell (p:=an b o) hb v)
def there_alloc(w:Wo)(cs:Zvv)(t:Fy)(n:Nat)(hn:n<=cs.size):(w.alloc (.cells cs t)).there w 0 n:=λj hj=>by
 have h:=Qea w (.cells cs t);refine⟨?_,?_⟩
 .unfold World.cell?;simp only[h];simp;omega
 .unfold World.frozen?;simp only[h];simp
def mh{e:Fy}{g:Nat}:∀(vs:Ox) (o:Nat) (w:Wo) (cs:Ox),aq w g e cs->o+vs.length<=cs.length->aq (w.setCells g o vs) g e (cs.take o++vs++cs.drop (o+vs.length))
 |[],o,w,cs,h,hl=>by
  have e:cs.take o++[]++cs.drop (o+0)=cs:=Sv;rw[show([]:List Va).length=0 from rfl,e];exact h
 |v::r,o,w,cs,h,hl=>by
  have h1:=mh r (o+1) (rc w g o v) (cs.set o v) (h.set o v) (by simp at hl|-;omega);have e:(cs.set o v).take (o+1)++r++(cs.set o v).drop (o+1+r.length)=cs.take o++(v::r)++cs.drop (o+(v::r).length):=by have aJ:o<cs.length:=(by simp at hl;omega);rw[Qet,Qfa Mx,QF,show o+(r.length+1)=o+1+r.length by omega];rw[XJ aJ,ZB _ _ (Qu▸(Qdj _ _))];simp[Zh (QX aJ)]
  rw[e] at h1;exact h1
def gF(i:Int):List Va:= .int .i64 i::replicate 128 (.int .u8 0)
def lK(i:Int):(gF i).length=129:=by simp[gF]
def Fs(i:Int):(gF i).toArray.all (·.oneCell')=true:=all_oneCell_toArray (λv hv=>by
 unfold gF at hv;obtain rfl|h:=QA.1 hv
 .rfl
 .rw[QJ h];rfl)
def ahz:(prog.info? 202).map (·.size)=some 129:=KJ
def Yt:(prog.info? 202).map (λi=>(i.zero,i.size,i.bytes))=some (some (.agg (ac 0::replicate 128 (io 0)).toArray),129,136):=KJ
def mz.on{w' :Wo}{base:Nat}{wv:Va}{ws:List (Int×List Int)}(h:mz w d pl bl base wv ws)(hb:ci w w'):mz w' d pl bl base wv ws:=
 ⟨h.own.on hb,h.eP.on hb,h.ne,h.size,h.byte,h.n0,h.n1,aS h.row hb,h.YX⟩
def vn:Tryz.zeroCells202.size=129:=KJ
def Kl(i:Int)(data:Fr)(h:data.length=128):splice (gF i) 1 (data.map (.int .u8))=wu (i,data):=by unfold splice wu;rw[Zu (by rw[lK,Qq];omega),Zi];rfl
def vf:∀(zs:Ox) (k:Nat) (cs:Zvv),k+zs.length<=cs.size->((zs.zipIdx k).foldl (λ(cs:Zvv) (p:Va×Nat)=>cs.setIfInBounds (0+p.2) p.1) cs).toList=cs.toList.take k++zs++cs.toList.drop (k+zs.length)
 |[],k,cs,_=>Sv
 |z::r,k,cs,h=>by
  have aJ:k<cs.size:=by simp at h;omega
  rw[List.zipIdx_cons,Qak,vf r (k+1) _ (by simp at h|-;omega)];rw[QR,Qfd,Qfa Mx,Qet,QF,show k+(r.length+1)=k+1+r.length by omega];rw[XJ zcg,ZB _ _ (Qu▸(Qdj _ _))];simp[Zh (QX aJ)]
def FK(w:Wo)(Z:Ox)(hz:Z.length=129):(Instr.buildSlice 108 1 #[(0,.agg Z.toArray)]).run prog w= .ok (el w 0 1 1) (w.alloc (.cells Z.toArray 202)):=by
 obtain⟨i0,hi,oI,mM,xw⟩:=Qdq Yt;refine run_buildSlice w _ _ 1 _ Z.toArray i0 _ underlying108 hi oI (by rw[mM];decide) (by rw[mM];decide) ?_;rw[mM];generalize hc:((Array.range (1*129)).map _)=cells;have iH:cells.size=129:=by rw[<-hc];simp
 show Instr.fill _ cells [(0,.agg Z.toArray)]=_;unfold Instr.fill;simp only;have cz:(Value.agg Z.toArray).cells.size=129:=by show Z.toArray.size=129;simpa using hz
 rw[Xd (by rw[cz,iH];decide)];show some _=some _;congr 1;have h1:=vf Z 0 cells Mx;rw[Zq,QZ,Zu (by rw[Qdz];omega),Zi] at h1;apply Qev;refine Qgg ?_ h1;rw[<-Array.foldl_toList,Array.toList_zipIdx];have e:(Value.agg Z.toArray).cells.toList=Z:=rfl;rw[e]
def Fz{w2:Wo}{n:Nat}
  (p v:Va) (hx:a.eval x=p) (h:(Instr.buildSlice t n #[(0,p)]).run P w= .ok v w2) (hk:K (a.put dst v) w2):
  if Region.wanted ⟨dst,.buildSlice t n #[(0,x)],ty,pos,after,none⟩ (yielded ops a.tmps)=true then Oper.wp P ⟨dst,.buildSlice t n #[(0,x)],ty,pos,after,none⟩ a w K Q else E:=by
 simp only[Region.wanted,Qdx];exact zeC
def wh{os ox:Operand}(base:Nat)(t e:Fy)(z:Va)(size bytes:Nat)(ht:P.underlying t=some (.slice e))(hi:(P.info? e).map (λi=>(i.zero,i.size,i.bytes))=some (some z,size,bytes))
  (Tq:z.cells.size=size) (cz:0<size) (v:Va) (n:Nat) (xs:Ox) (bN:w.ownsRow base e size v n xs) (g:Nat) (news:Ox) (hx:aq w g e news) (oc:news.length=size)
  (h1:∀u∈news,u.oneCell' =true) (TP:n+1<=maxLen) (lF:(n+1)*bytes<=140737488355328) (ey:base<=w) (hs:a.eval os=v) (AM:a.eval ox= .slice (some ⟨g,0,none⟩) 1 1)
  (hK:∀v' w',w'.ownsRow base e size v' (n+1) (xs++news)->w.grownBy w' v.ownBlock->(v'.ownBlock=v.ownBlock\/v'.ownBlock=some w.heap.size)->K (a.put dst v') w'):
  if Region.wanted ⟨dst,.call {callee:= .builtin .append,args:= #[os,ox],argTypes:= #[t,t]},ty,pos,after,none⟩ (yielded ops a.tmps)=true then
   Oper.wp P ⟨dst,.call {callee:= .builtin .append,args:= #[os,ox],argTypes:= #[t,t]},ty,pos,after,none⟩ a w K Q else E:=by
 simp only[Region.wanted,Qdx];obtain⟨i,hi,hz,BF,hby⟩:=Qdq hi;obtain⟨v',w',hr,h2,h3,_,h4⟩:=run_append_own_at (P:=P) w base t ty e i z size bytes ht hi hz BF hby Tq cz v n xs bN ⟨g,0,none⟩ 1 1 news Mx
  (λj u hu=>by rw[dP,QR];exact hx.cell hu) h1 TP lF ey
 unfold Oper.wp execOp;simp only[resolve,invoke,builtin,Qaz,Qcc,XH,Qep,Zs,Qfh,hs,AM,hr];exact hK v' w' h2 h3 h4
def I1(p:Int×List Int):∀u∈wu p,u.oneCell' =true:=by
 intro u hu;unfold wu at hu;obtain rfl|h:=QA.1 hu
 .rfl
 .exact dW .u8 _ u h
def Kk(w:Wo)(d pl:Nat)(bl:List (List Int))(base:Nat)(wv:Va)(ws:List (Int×List Int))(h:mz w d pl bl base wv ws)(iV:base<=w)(Ev:ws.length<=10000)(i:Nat)(hi:i<bl.length)(v:Va)(data:Fr)(hd:Bs w w v data)(oR:data.length=128):
  Calls prog 104 #[d,ac i,v] w (iF (ac 0) λw' =>∃wv',mz w' d pl bl base wv' (ws++[((i:Int),data)])/\aG (λx=>x=d\/wv.ownBlock=some x) w w'/\(∀x,wv'.ownBlock=some x->wv.ownBlock=some x\/w.heap.size<=x)):=by
 obtain⟨A,c,rfl,jb,pk⟩:=hd.1.form;rw[oR] at jb;have⟨n,hn⟩:=eX bl.length;have H:=aa h;have Hn:=kH hn (by omega:i<n) Ev iV;have HD:=dK (by have:=hd;rw[oR] at this;exact this:Bs w w (am A 128 c) data) oR;have HM:=aa (zL w d pl n _ (hn▸h.own));have HPw:=aa (yg w d pl n _ (hn▸h.own));have x0:w.cell? d=some (el pl 0 n n):=hn▸(h.own.j0);have ph:(i:Int)<n:=Mx;have ml:(0:Int)<=i:=Mx;have ang:¬(n:Int)<=i:=Mx
 have⟨g,hg⟩:=eX w.heap.size;have G:=aa hg;rw[oR];clear h hn hi hd oR Ev iV hg jb pk;go_in;go_upto_region 10 with(first
  |(go_at_call 111;refine PP HM.o ?_)
  |(go_at_call 112;refine PP HPw.o ?_)
  |((refine wpList_store_mid rfl 202 _ _ rfl w 0 (gF i).toArray ?_ ?_ (there_alloc w _ _ _ ?_) ?_ (Fs i) ?_);(·rfl);(·rfl);(·first|exact go|simp[gF]);(·exact ahz);go_frame))
 clear HM HPw;have K2:Af (aq ((qr w Tryz.zeroCells202 202).setCells w 0 (gF i)) w 202 (gF i)):=by
  have h0:aq (qr w Tryz.zeroCells202 202) w 202 Tryz.zeroCells202.toList:=by show _=_;rw[Array.toArray_toList];exact Qea _ _
  have h1:=mh (gF i) 0 _ _ h0 (by rw[lK,Qdz,vn];omega);rw[Zq,QZ,Zu (by rw[lK,Qdz,vn];omega),Zi] at h1;exact h1
 have B2:Af (ci w ((qr w Tryz.zeroCells202 202).setCells w 0 (gF i))):=kF go _ _ _ (aF w _);generalize (qr w Tryz.zeroCells202 202).setCells w 0 (gF i)=W2 at*;have⟨cs,iH⟩:=eX (data.map (Value.int .u8));have WS:=aa iH;have tk:Af (cs.length=128):=by show _=_;rw[iH,Qq];exact HD.q1
 have uE:Af (∃ad,A=some ad/\∀j u,cs[j]? =some u->W2.cell? (ad.add j)=some u):=by obtain⟨b,o,c',hv,-,-,hr⟩:=HD.o.1.1.row (by have:=HD.q1;omega);injection hv with e1 e2 e3;subst e1;refine⟨_,rfl,λj u hj=> ?_⟩;rw[dP,B2.o.cell hr.1];exact hr.2 j u (iH▸hj)
 clear iH x0;go_upto_region 11 with(refine wpList_copy_splice rfl (.tmp 40) (.tmp 41) 95 95 rfl 5 underlying95 zes _ _ _ _ _ _ rfl rfl w 1 (gF i) 202 K2.o cs ?_ ?_ ?_ ?_ w w B2.o go ?_;(·have:=tk.o;simp only[Qey];split<;>omega);(·intro hp;obtain⟨ad,h1,h2⟩:=uE.o;exact⟨rfl,ad,h1,h2⟩);(·have:=tk.o;rw[lK];omega);(·intro u hu;rw[WS.o] at hu;exact dW .u8 data u hu);(intro W3 qa jW;have B3:=aa jW;clear jW));have K3:Af (aq W3 w 202 (wu ((i:Int),data))):=by have h1:=qa.out;rw[WS.o,Kl _ _ HD.q1] at h1;exact h1
 have H3:=aa (H.o.on B3.o);obtain⟨Aw,nw,cw,hwv⟩:∃A n c,wv= am A n c:=by rcases H.o.row.2 with⟨h1,_⟩|⟨g,cap,cur,h1,_⟩<;>exact⟨_,_,_,h1⟩
 subst hwv;have q1:=H3.o.own.j1;have⟨Z,hZ⟩:=eX (wu ((i:Int),data));have HZ:=dK hZ (by rw[hZ];simp[wu];exact HD.q1:Z.length=129);have xF:=aa (rM W3.drew w Z HZ.q1 (by rw[hZ];exact K3.o));clear hZ qa uE tk K2 B2;have AD:=aF W3.drew (.cells Z.toArray 202);have UA:=aa (aS (show W3.drew.ownsRow base 202 129 (am Aw nw cw) ws.length (ws.flatMap wu) from H3.o.row) AD);have XA:Af (aq (qr W3.drew Z.toArray 202) W3 202 Z):=ar W3.drew Z _;have HZ1:Af (∀u∈Z,u.oneCell' =true):=by show ∀u∈Z,_;rw[HZ.p1];exact I1 _
 have HBs:=aa (Qh (Qh Hn.q3 B3.o.size) AD.size);have HA:=aa (aq.on (w:=W3.drew) H3.o.own AD);have qA:=HA.o.j1;have qB:=qA;have oN:Af (∀(v' :Va) (w' :Wo),w'.ownsRow base 202 129 v' (ws.length+1) (ws.flatMap wu++Z)->(qr W3.drew Z.toArray 202).grownBy w' (Value.slice Aw nw cw).ownBlock->(v'.ownBlock=(Value.slice Aw nw cw).ownBlock\/v'.ownBlock=some (qr W3.drew Z.toArray 202).heap.size)->
   w'.cell? (an d 1)=some (am Aw nw cw)/\w'.frozen? (an d 1)=false/\mz (rc w' d 1 v') d pl bl base v' (ws++[((i:Int),data)])/\aG (λx=>x=d\/(Value.slice Aw nw cw).ownBlock=some x) w (rc w' d 1 v')/\(∀x,v'.ownBlock=some x->(Value.slice Aw nw cw).ownBlock=some x\/w<=x)):=by
  intro v' w' ho hg hn;have hPA:=aq.on (w:=W3.drew) H3.o.eP AD;have kd:=HA.o.grown hg (Xm (aq.not_row HA.o Fd UA.o));have kp:=hPA.grown hg (Xm (aq.not_row hPA Fd UA.o));refine⟨kd.j1,kd.free 1,⟨kd.set 1 v',kp.az (Xm H3.o.ne) _,H3.o.ne,H3.o.size,H3.o.byte,H3.o.n0,H3.o.n1,?_,?_⟩,?_,?_⟩
  .have h1:=Qac ho (row:=some d) (w' :=rc w' d 1 v') ⟨rfl,rfl,rfl,Sv,λk _ bT=>Xl _ _ _ _ (λe=>bT zbl)⟩ (.inr (aq.not_row kd Fd ho));rw[HZ.p1] at h1;rw[Qo,QP];simpa using h1
  .intro p hp;obtain h|h:=Qz.1 hp
   .exact H3.o.YX p h
   .rw[Qx] at h;subst h;exact⟨HD.q1,HD.o.1.2,by show(0:Int)<=i;omega,by show(i:Int)<bl.length;have:=Hn.o;omega⟩
  .have c1:aG (λx=>x=d\/(Value.slice Aw nw cw).ownBlock=some x) w (qr W3.drew Z.toArray 202):=aG.aZ ((B3.o.drew).trans (AD.mono B3.o.size));have c2:aG (λx=>x=d\/(Value.slice Aw nw cw).ownBlock=some x) (qr W3.drew Z.toArray 202) w' :=aG.dH hg (λx _ e=> .inr e);exact(c1.trans c2).setCell (λ_=> .inl rfl) _
  .intro x hx;obtain h|h:=hn
   .exact .inl (h▸hx)
   .rw[h] at hx;have:=Qr hx;exact .inr (this▸(Qh B3.o.size AD.size))
 have SA:Af (aq (qr W3.drew Z.toArray 202) w 202 Z):=by refine aq.on (w:=W3.drew) ?_ AD;rw[HZ.p1];exact K3.o
 have HSg:Af (∀w',(qr W3.drew Z.toArray 202).grownBy w' (Value.slice Aw nw cw).ownBlock->aq w' w 202 Z):=λw' hg=>SA.o.grown hg (λe=>by have:=(Xr H.o.row w e.symm).2;omega);have HwD:Af (w.heap.size≠d):=by have:=H.o.own.lt;show _≠_;omega
 clear AD;have hS:aq W3.drew w 202 Z:=HZ.p1▸K3.o;have SS:aq W3.drew w 202 Z/\jp W3.drew d 1 (am Aw nw cw):=⟨hS,H3.o.own.j1⟩;refine bL (λj=>[12].contains j) (λW=>aq W w 202 Z/\jp W d 1 (am Aw nw cw)) KJ ?_;refine tKz 0 43 d pm (λW hW=>zM) SS ?_;refine Pi ?_;refine tKz 1 44 d pm (λW hW=>zM) SS ?_;refine Pi ?_;refine tKz 2 45 d pm (λW hW=>zM) SS ?_;refine Pi ?_;refine tKz 3 46 (ro d 1) pm (λW hW=>zM) SS ?_;refine Pi ?_;refine tKz 4 47 (ro d 1) pm (λW hW=>zM) SS ?_;refine Pi ?_;refine tKz 5 48 (am Aw nw cw) pm (λW hW=>by have hx:=hW.2;go_simp) SS ?_;refine Pi ?_;refine tKz 6 49 (.agg Z.toArray) pm (λW hW=>lq w _ rfl (rM W w Z HZ.q1 hW.1)) SS ?_;refine Pi ?_;refine ju 7 rfl KJ λK hK=> ?_;refine Fz (.agg Z.toArray) (el W3 0 1 1) ?_ (FK W3.drew Z HZ.q1) ?_
 .rfl
 refine hK.out _ _ (λ_=>⟨SA.o,qA⟩) ?_;clear hK K;refine Pi ?_;refine ju 8 rfl KJ λK hK=> ?_;refine wh base 108 202 (.agg (ac 0::replicate 128 (io 0)).toArray) 129 136 underlying108 Yt rfl Fd (am Aw nw cw) ws.length (ws.flatMap wu) UA.o W3 Z XA.o HZ.q1 HZ1.o zbu wl HBs.o rfl rfl ?_;intro v4 w4 ua og hn4;obtain⟨g4,Og,rfl⟩:=ownsRow_succ ua;have HF:=aa (oN.o _ _ ua og hn4);have q4:=HF.p1;have f4:=HF.p2;have S4:=aa (HSg.o _ og);have S5:=aa (S4.o.az (p:=an d 1) HwD.o (el g4 0 (ws.length+1) Og));clear ua og hn4;refine hK.out _ _ (λ_=>⟨S4.o,q4⟩) ?_;clear hK K;refine Pi ?_;refine tKz 9 52 d pm (λW hW=>zM) ⟨S4.o,q4⟩ ?_;refine Pi ?_;refine tKz 10 53 (ro d 1) pm (λW hW=>zM) ⟨S4.o,q4⟩ ?_;refine Pi ?_;refine tKz 11 54 (ro d 1) pm (λW hW=>zM) ⟨S4.o,q4⟩ ?_;refine Pi ?_;refine ju 12 rfl KJ λK hK=> ?_;go_simp;refine hK.out _ _ (λh=>absurd h Fd) ?_;clear hK K;refine bD KJ ?_ _;go_wp2;go_ret;exact⟨rfl,_,HF.p3,HF.p4,HF.q4⟩
def GY(w:Wo)(g:Nat)(cs:Zvv):aG (λx=>x=g) w (w.setRow g cs):=
 ⟨rfl,rfl,rfl,by simp[World.setRow],λk _ hn=>Qhw w g k cs Mx⟩
def sU:∀(bl:List (List Int)) (i:Nat) (d:Fr),i<bl.length->(∀b∈bl,b.length=128)->d.length=128->splice bl.flatten (i*128) d=(bl.set i d).flatten
 |[],i,d,hi,_,_=>by simp at hi
 |b::r,0,d,_,hs,hd=>by
  have hb:=hs b Sv;rw[splice,Xz,Zq,QZ,Qd,Qbf,Qbf,QR,hd];rw[<-hb,Qei]
 |b::r,i+1,d,hi,hs,hd=>by have hb:=hs b Sv;have ih:=sU r i d zal (λx hx=>hs x zdx) hd;unfold splice at ih|-;rw[Qc,Qbf,Qbf,<-ih,show(i+1)*128=b.length+i*128 by omega,List.take_length_add_append,XB,List.drop_length_add_append,QY]
def FB{α β:Type}(f:α->β)(L:List α)(o:Nat)(cs:List α):splice (L.map f) o (cs.map f)=(splice L o cs).map f:=by simp[splice,Qcn,Qgt]
def ahA(bl:List (List Int)):List Va:=bl.flatten.map (.int .u8)
def wl_copy_chg{P:ST}{w:Wo}{ops:LC}{rest:List Oper}{o:Oper}{a:Act}{Q:Mp}(hgd:o.guard=none)(d s:Operand)(dT sT:Fy)
  (ho:o.op= .call {callee:= .builtin .copy,args:= #[d,s],argTypes:= #[dT,sT]}) (elem:Fy) (hu:P.underlying dT=some (.slice elem)) (cz:(P.info? elem).map (·.size)=some 1)
  (g off qj wW:Nat) (ad:Addr) (pA uw:Nat) (hd:a.eval d= .slice (some ⟨g,off,none⟩) qj wW) (hs:a.eval s= .slice (some ad) pA uw)
  (cur:Ox) (t:Fy) (hg:aq w g t cur) (cs:Ox) (hn:cs.length=Nat.min pA qj)
  (EU:∀j v,cs[j]? =some v->w.cell? (ad.add j)=some v) (jy:off+cs.length<=cur.length) (h1:∀v∈cs,v.oneCell' =true)
  (h:∀w',aq w' g t (splice cur off cs)->aG (λx=>x=g) w w'->wpList P ops Q rest (a.put o.dst (goInt cs.length)) w'):wpList P ops Q (o::rest) a w:=by
 refine wpList_copy_own hgd d s dT sT ho elem hu cz g off qj wW ad pA uw hd hs cur.toArray t hg cs hn EU (by simpa using jy) h1 ?_;exact h _ (Qha w g _ _ t _ hg) (GY _ _ _)
def Qw(w:Wo)(d pl:Nat)(bl:List (List Int))(wv:Va)(ho:aq w d 112 (J8 pl bl.length wv))(hp:aq w pl 200 (bl.flatten.map (.int .u8)))
  (hs:∀b∈bl,b.length=128) (i:Nat) (hi:i<bl.length) (j5:bl.length<=4096) (data:Fr) (hd:data.length=128):
  Calls prog 113 #[d,.agg (wu ((i:Int),data)).toArray,ac 128] w λe w' =>(∃u,e= .returned u)/\aq w' pl 200 (ahA (bl.set i data))/\aG (λx=>x=pl) w w' :=by
 have⟨n,hn⟩:=eX bl.length;have⟨Z,hZ⟩:=eX (wu ((i:Int),data));rw[<-hn] at ho;rw[<-hZ];have⟨W1,aW⟩:=eX (w.alloc (.cells Z.toArray 202));have⟨xb,eD⟩:=eX w.heap.size;have X1:Af (aq W1 xb 202 Z):=zck;have B1:Af (ci w W1):=aW▸(aF _ _);have O1:=aa (ho.on B1.o);have P1:=aa (hp.on B1.o);have Hi:=iJ (by omega:i<n) hn (by omega:n<=4096);have gB:=aa aW.symm;have xD:=aa eD.symm;have h0:(0:Int)<=i:=Mx;have h1:(i:Int)<n:=Mx;clear ho hp hi hn j5 aW eD;change Af _ at hs hd hZ;go_in;go_upto_region 1 with fail;rw[gB.o,xD.o];have x0:=O1.o.j0;have x1:W1.cell? xb=some (ac i):=X1.o.cell (by rw[hZ.o];rfl);refine Qat 11 KJ KJ ?_;simp only[Zw,Zq,Zk,Zl];change wpStill _ _ (World.drew W1) (λa' =>wpList _ _ _ _ a' (World.drew W1)) _ _;repeat still_step
 refine Qdf ?_;refine wl_copy_chg rfl (.tmp 14) (.tmp 16) 95 95 rfl 5 underlying95 zes pl (i*128) 128 128 (an xb 1) 128 128 rfl rfl _ 200 (show aq W1.drew pl _ _ from P1.o) (data.map (.int .u8)) ?_ ?_ ?_ (dW .u8 data) ?_
 .rw[Qq,hd.o];rfl
 .intro j v hj;rw[dP];refine X1.o.cell (j:=1+j) ?_;rw[hZ.o,Qcm];exact hj
 .rw[Qq,hd.o,Qq];have h2:=List.length_flatten (L:=bl);have h3:bl.map List.length=replicate bl.length 128:=Qaf Sv (λj a b=>by simp;exact hs.o _ (QI _));rw[h3,List.sum_replicate_nat] at h2;have:=Hi.o;omega
 intro W5 qd Z1;change Af _ at qd Z1;go_wp2;go_end0;refine⟨⟨_,rfl⟩,?_,(aG.aZ B1.o).trans ((aG.refl _ W1).drew.trans Z1.o)⟩;have h2:=qd.o;rw[FB,sU bl i data (by have:=Hi.o;omega) hs.o hd.o] at h2;exact h2
def FI(w:Wo)(a:Addr)(cs:Ox)(hl:cs.length=129)(h:∀j v,cs[j]? =some v->w.cell? (a.add j)=some v):
  (Instr.loadAt 202 (.pointer (some a))).run prog w= .ok (.agg cs.toArray) w:=by
 have h1:=Qay (P:=prog) w a cs h;simp only[hl] at h1;have h2:(isAgg 202).run prog w= .ok true w:=KJ;have h3:(sizeOf 202).run prog w= .ok 129 w:=KJ;have h4:(Instr.sureAddr (.pointer (some a))).run prog w= .ok a w:=rfl;exact zeR
def I3:∀(ws:List (Int×List Int)) (k:Nat) (hk:k<ws.length) (j:Nat),(∀p∈ws,p.2.length=128)->j<129->(ws.flatMap wu)[k*129+j]? =(wu ws[k])[j]?
 |[],k,hk,j,_,_=>zcX
 |p::r,0,hk,j,hs,hj=>by
  have hp:=hs p Sv;rw[QH,Xz,QR,QN (by simp[wu];omega)];rfl
 |p::r,k+1,hk,j,hs,hj=>by
  have hp:=hs p Sv;have hl:(wu p).length=129:=by simp[wu];omega
  rw[QH,QM (by rw[hl];omega),hl,show(k+1)*129+j - 129=k*129+j by omega];rw[I3 r k Wr j (λq hq=>hs q (by simp[hq])) hj];rfl
def Di(bl:List (List Int))(ws:List (Int×List Int))(p:Int×List Int):eS bl (ws++[p])=(eS bl ws).set p.1.toNat p.2:=by simp[eS]
def zS(bl:List (List Int))(ws:List (Int×List Int))(k:Nat)(q:Int×List Int){i:Nat}(h:ws[k]? =some q)(hi:q.1=i):eS bl (ws.take (k+1))=(eS bl (ws.take k)).set i q.2:=by rw[Qcw,h,Option.toList_some,Di,hi,Xt]
def fG(bl:List (List Int))(ws:List (Int×List Int)):(eS bl ws).length=bl.length:=by
 unfold eS;induction ws generalizing bl with
 |nil=>rfl
 |cons p r ih=>rw[Qak,ih,Zy]
def lL{P:List Int->Prop}:∀(ws:List (Int×List Int)) (bl:List (List Int)),(∀b∈bl,P b)->(∀p∈ws,P p.2)->∀b∈eS bl ws,P b
 |[],bl,h,_=>h
 |p::r,bl,h,hw=>by
  show ∀b∈eS (bl.set p.1.toNat p.2) r,P b;refine lL r _ (λb hb=> ?_) (λq hq=>hw q (by simp[hq]));obtain h1|h1:=Zz hb
  .exact h b h1
  .rw[h1];exact hw p Sv
def ab7:(prog.info? 202).map (λi=>(i.zero,i.size))=some (some (.agg (ac 0::replicate 128 (io 0)).toArray),129):=KJ
def LM(w:Wo)(d pl:Nat)(bl:List (List Int))(base:Nat)(wv:Va)(ws:List (Int×List Int))(h:mz w d pl bl base wv ws)(Ev:ws.length<=10000):
  Calls prog 42 #[d] w (iF (ac 0) λw' =>cF w' d pl (eS bl ws)/\aG (λx=>x=d\/x=pl) w w') :=by
 have⟨n,hn⟩:=eX bl.length;obtain⟨A,m,c,hwv⟩:∃A n c,wv= am A n c:=by rcases h.row.2 with⟨h1,_⟩|⟨g,cap,cur,h1,_⟩<;>exact⟨_,_,_,h1⟩
 subst hwv;have hm:m=ws.length:=by rcases h.row.2 with⟨h1,h2⟩|⟨g,cap,cur,h1,_⟩<;>cases h1<;>omega
 subst hm;have H:=aa h;have Hn:=dK hn Ev;have am3:(ws.length:Int)<=10000:=Mx
 have HM:=aa (zL w d pl n _ (hn▸h.own));have HPw:=aa (yg w d pl n _ (hn▸h.own));have x1:=h.own.j1;have⟨m,hm⟩:=eX ws.length;rw[<-hm] at am3 x1;have Hm:=aa hm;clear h hn Ev hm;go_in;go_wp2_with(first
  |(go_at_call 111;refine PP HM.o ?_)
  |(go_at_call 112;refine PP HPw.o ?_))
 clear HM HPw x1;go_loopw [23] (λi wr=>∃k:Nat,i= ac k/\Af (k<=m/\aq wr pl 200 ((eS bl (ws.take k)).flatten.map (.int .u8))/\aG (λx=>x=pl) w wr)) (λi _=>m - (intOf i).toNat)
 .exact⟨0,rfl,lm,H.o.eP,aG.refl _ _⟩
 .obtain⟨k,rfl,HR⟩:=hrel;by_cases aJ:k<m
  .have hi:(k:Int)<m:=(by omega);have ml:(0:Int)<=k:=Mx;have bQ:k<ws.length:=Jx;have fp:wrap64 ((k:Int)+1)=(k:Int)+1:=vW;have bj:=aa aJ;have eu:=aa fp;obtain⟨g,c',hv,EA,hgc,Wv,SD⟩:=rK H.o.row Mx;cases hv;have⟨q,hq⟩:=eX (ws[k]);have hqm:q∈ws:=hq▸(QI bQ);have cz:=H.o.YX q hqm;obtain⟨i,Ni⟩:=Qeg cz.2.2.1;have⟨Z,hZ⟩:=eX (wu q);have hZl:Z.length=129:=(by rw[hZ];simp[wu];omega);have agG:=Rw.ne SD H.o.eP Fd;have age:=SD.aL HR.q2 agG;have xF:Af (∀a,a=Addr.mk g (k*129) none->(Instr.loadAt 202 (.pointer (some a))).run prog wr= .ok (.agg Z.toArray) wr):=by
    rintro a rfl;refine FI wr _ Z hZl (λj v hj=> ?_);rw[dP];refine age.cell ?_;have hj2:j<129:=by
     obtain h1|h1:=Qae j Z.length
     .omega
     .rw[QQ h1] at hj;cases hj
    rw[I3 ws k bQ j (λp hp=>(H.o.YX p hp).1) hj2,<-hq,<-hZ];exact hj
   have HZ:Af (Z=wu ((i:Int),q.2)/\Z.length=129/\Z.toArray.all (·.oneCell')=true):=⟨by rw[hZ,<-Ni],hZl,all_oneCell_toArray (by rw[hZ];exact I1 q)⟩;have Hq:=kH (by rw[hq];exact Qf bQ:ws[k]? =some q) Ni cz.1 (by have:=cz.2.2.2;omega:i<bl.length);have Hs:Af (∀b∈eS bl (ws.take k),b.length=128):=lL (P:=λb=>b.length=128) _ _ H.o.size (λp hp=>(H.o.YX p (Za hp)).1);have⟨W2,cE⟩:=eX (wr.alloc (.cells Z.toArray 202));have⟨xb,eD⟩:=eX wr.heap.size;have X2:Af (aq W2 xb 202 Z):=(by show aq _ _ _ _;rw[cE,eD];exact ar _ _ _);have B2:Af (ci wr W2):=cE▸(aF _ _)
   have Tb:=aa cE.symm;have xD:=aa eD.symm;clear aJ bQ hq hqm cz Ni hZ hZl agG age SD EA hgc Wv cE eD;go_wp2_with(first
    |((with_reducible refine wl_load (ro g (k*129)) (.agg Z.toArray) ?_ (xF.o _ rfl) ?_);(·first|rfl|(simp;done)))
    |((with_reducible refine wl_new_arr (t:=202) (z:=(ac 0::replicate 128 (io 0)).toArray) Z.toArray ?_ ?_ HZ.q2 ?_ ?_ ?_);(·have:=HZ.p2;rw[QW,this];exact ab7);(·have:=HZ.p2;simp[this]);(·rfl);(·rfl);(rw[Tb.o,xD.o];go_frame)))
   have B2d:=B2.o.drew;have eK:=H.o.ne;have HP:=aa (Qw W2.drew d pl (eS bl (ws.take k)) _ (by rw[fG];exact(H.o.own.aL HR.q2 eK).on B2d) (HR.p2.on B2d) Hs.o i (by rw[fG];exact Hq.q3) (by rw[fG];exact H.o.n1) q.2 Hq.p3);rw[<-HZ.p1,<-zS _ ws k q Hq.p1 Hq.p2] at HP;have an5:=aa B2d;have HL2:=aa (rM W2.drew xb Z HZ.p2 X2.o);clear B2d eK;refine Qat 4 KJ KJ ?_;simp only[Zw,Zq,Zk,Zl];change wpStill _ _ (World.drew W2) (λa' =>wpList _ _ _ _ a' (World.drew W2)) _ _;(repeat(first|((with_reducible refine st_load (t:=202) xb (.agg Z.toArray) ?_ HL2.o ?_);(·rfl))|still_step));refine Qdf ?_;go_wp2_with(go_at_call 113;refine HP.o.mono ?_;rintro e W4 ⟨⟨u,rfl⟩,p4,c4⟩;have P4:=aa p4;have C4:=aa c4;clear p4 c4);go_roundw
   .exact⟨k+1,xh,bj.o,P4.o,(HR.q2.trans (aG.aZ an5.o)).trans C4.o⟩
   .exact wn
  .obtain rfl:k=m:=(by have:=HR.o;omega);have e1:ws.take k=ws:=Qj Jx;have P0:Af (aq wr pl 200 ((eS bl ws).flatten.map (.int .u8))):=(by have h1:=HR.p2;rw[e1] at h1;exact h1);have K0:=aa (H.o.own.aL HR.q2 H.o.ne);have C0:=aa HR.q2;have x1:=K0.o.j1;have f1:=K0.o.free 1;clear e1 HR;go_wp2_with fail;go_ret;refine⟨rfl,⟨?_,P0.o.az (Xm H.o.ne) _,H.o.ne,lL _ _ H.o.size (λp hp=>(H.o.YX p hp).1),lL (P:=λb=>∀x∈b,aI x) _ _ H.o.byte (λp hp=>(H.o.YX p hp).2.1),by rw[fG];exact H.o.n0,by rw[fG];exact H.o.n1⟩,?_⟩
   .rw[fG];exact K0.o.set 1 _
   .exact(C0.o.mono λx _ h=> .inr h).setCell (λ_=> .inl rfl) _
variable{w' :Wo}
inductive ri where
 |wr (at_:Nat) (data:Fr)
 |fl
def DS(d pl:Nat):Nat->Prop:=λx=>x=d\/x=pl
def lI(w:Wo)(d pl:Nat)(v:Va):ri->Prop
 | .wr i data=>∃b1 b2 b3 dv,v= .func (.func 103) #[] #[.pointer (some ⟨b1,0,none⟩),.pointer (some ⟨b2,0,none⟩),.pointer (some ⟨b3,0,none⟩)]/\aq w b1 44 [.pointer (some ⟨d,0,none⟩)]/\aq w b2 3 [.int .i64 i]/\aq w b3 95 [dv]/\Bs w w dv data/\Ap (DS d pl) dv/\¬DS d pl b1/\¬DS d pl b2/\¬DS d pl b3
 | .fl=>v= .func (.func 42) #[.pointer (some ⟨d,0,none⟩)] #[]
def run_store_func{P:ST}{a:Addr}{m:Mode}(f:Fn)(xs ys:Zvv):(store a (.func f xs ys) m).run P w=stored P w a (.func f xs ys) m:=run_store P w a _ m rfl
def iW(s:List (List Int)×List (Int×List Int)):List ri->List (List Int)×List (Int×List Int)
 |[]=>s
 | .wr i data::r=>iW (s.1,s.2++[((i:Int),data)]) r
 | .fl::r=>iW (eS s.1 s.2,[]) r
def xX(s:List (List Int)×List (Int×List Int))(l m:List ri):iW s (l++m)=iW (iW s l) m:=by
 induction l generalizing s with
 |nil=>rfl
 |cons a r ih=>cases a<;>exact ih _
def abp(n:Nat):ri->Prop
 | .wr i data=>i<n/\data.length=128
 | .fl=>True
def lI.aL{s:ri}(h:lI w d pl v s)(hc:aG (DS d pl) w w'):lI w' d pl v s:=by
 cases s with
 |fl=>exact h
 |wr i data=>
  obtain⟨b1,b2,b3,dv,e,h1,h2,h3,h4,h5,n1,n2,n3⟩:=h;exact⟨b1,b2,b3,dv,e,h1.aL hc n1,h2.aL hc n2,h3.aL hc n3,⟨(h4.1.aL hc go h5).more hc.size,h4.2⟩,h5,n1,n2,n3⟩
def lI.on{s:ri}(h:lI w d pl v s)(hb:ci w w'):lI w' d pl v s:=h.aL (aG.aZ hb)
def Lr{b:Nat}{x:Va}(h:aq w b 97 [x]):(loadVar 97 (ol b)).run prog w= .ok (.agg #[x]) w:=by have h0:=h.j0;have h2:(isAgg 97).run prog w= .ok true w:=KJ;have h3:(sizeOf 97).run prog w= .ok 1 w:=KJ;have h1:=Qay (P:=prog) w (ol b) [x] (λj v hj=>zaG);simp only[QF,Xq,QR] at h1;exact zfI
def Cl(w:Wo)(d pl:Nat)(bl:List (List Int))(base:Nat)(wv:Va)(ws:List (Int×List Int))(h:mz w d pl bl base wv ws)(iV:base<=w)(Ev:ws.length<=10000)(v:Va)(i:Nat)(data:Fr)(hs:lI w d pl v (.wr i data))(hk:abp bl.length (.wr i data)):
  ∃b1 b2 b3,v= .func (.func 103) #[] #[li b1,li b2,li b3]/\
  Calls prog 103 #[li b1,li b2,li b3] w (iF (ac 0) λw' =>∃wv',mz w' d pl bl base wv' (ws++[((i:Int),data)])/\aG (λx=>x=d\/wv.ownBlock=some x) w w') :=by
 obtain⟨b1,b2,b3,dv,e,h1,h2,h3,h4,h5,-,-,-⟩:=hs;refine⟨b1,b2,b3,e,?_⟩;have HW:=aa (Kk w d pl bl base wv ws h iV Ev i hk.1 dv data h4 hk.2);have x1:=h1.j0;have x2:=h2.j0;have x3:=h3.j0;obtain⟨A,c,rfl,-,-⟩:=h4.1.form;clear e h1 h2 h3 h4 h5 h iV Ev hk;go_in;go_wp2_with(go_at_call 104;refine HW.o.mono ?_;rintro e W2 ⟨rfl,wv2,d2,c2,-⟩;have D2:=aa d2;have C2:=aa c2;clear d2 c2);go_ret;exact⟨rfl,wv2,D2.o,C2.o⟩
def xW(s:List (List Int)×List (Int×List Int))(l:List ri):(iW s l).1.length=s.1.length:=by
 induction l generalizing s with
 |nil=>rfl
 |cons a r ih=>
  cases a with
  |wr i data=>exact ih _
  |fl=>exact(ih _).trans (fG _ _)
def Dl(s:List (List Int)×List (Int×List Int))(l:List ri):(iW s l).2.length<=s.2.length+l.length:=by
 induction l generalizing s with
 |nil=>exact XM _ _
 |cons a r ih=>
  cases a with
  |wr i data=>
   have:=ih (s.1,s.2++[((i:Int),data)]);simp at this|-;show(iW (s.1,s.2++[((i:Int),data)]) r).2.length<=_;omega
  |fl=>
   have:=ih (eS s.1 s.2,[]);simp at this|-;show(iW (eS s.1 s.2,[]) r).2.length<=_;omega
def cF.Ym{bl:List (List Int)}(h:cF w d pl bl)(base:Nat):∃wv,mz w d pl bl base wv []:=⟨_,h.wait base⟩
variable{W' :Wo}{g vb xb:Nat}{C:Ox}{pre:List uq}
def vP(w:Wo)(xb:Nat):Calls prog 106 #[xb] w (iF (.func (.func 174) #[] #[w]) λw' =>w' =w.alloc (.cells #[xb] 191)):=by go_in;go_wp2_with fail;exact vl
def ef{b:Nat}{cs:Ox}(hl:cs.length=18)(h:∀j v,cs[j]? =some v->jp w b j v):(Instr.loadAt 60 b).run prog w= .ok (.agg cs.toArray) w:=by have h1:=Qay (P:=prog) w (ol b) cs (λj v hj=>by rw[dP,QR];exact h j v hj);simp only[hl] at h1;have h2:(isAgg 60).run prog w= .ok true w:=KJ;have h3:(sizeOf 60).run prog w= .ok 18 w:=KJ;have h4:(Instr.sureAddr b).run prog w= .ok (ol b) w:=rfl;exact zeR
def fW(s:aN)(k:Nat):List Int:=(range k).foldl (λb i=>lB b (kK i).toNat (ia i).toNat ((wR s).getD i 0)) (replicate 123 0)
def kq(s:aN)(k:Nat):fW s (k+1)=lB (fW s k) (kK k).toNat (ia k).toNat ((wR s).getD k 0):=by unfold fW;rw[Qbd,Qbv];rfl
def gW(s:aN)(k:Nat)(hk:k<=18):(fW s k).length=123:=by
 induction k with
 |zero=>simp[fW]
 |succ k ih=>
  have h1:=ln k Mx;have h2:=gP k;rw[kq,u7 (by rw[ih Mx];omega),ih Mx]
def ye{bs:Fr}(h:∀x∈bs,aI x)(p s:Nat)(n:Int):∀x∈lB bs p s n,aI x:=by
 intro x hx;unfold lB at hx;obtain hx|hx:=Qz.1 hx
 .rcases Qz.1 hx with hx|hx
  .exact h x (Za hx)
  .exact eW s n x hx
 .exact h x (Q6 hx)
def DU(s:aN)(k:Nat):∀x∈fW s k,aI x:=by
 induction k with
 |zero=>intro x hx;rw[show fW s 0=replicate 123 0 from rfl] at hx;rw[QJ hx];exact⟨Fd,Fd⟩
 |succ k ih=>rw[kq];exact ye ih _ _ _
def uP(s:aN)(k:Nat):List Int:=(range k).flatMap λi=>mH (ia i).toNat ((wR s).getD i 0)
def vV(s:aN)(k:Nat):uP s (k+1)=uP s k++mH (ia k).toNat ((wR s).getD k 0):=by unfold uP;rw[Qbd,QP];simp
def yS(s:aN)(k:Nat)(hk:k<=18):((uP s k).length:Int)=kK k:=by
 induction k with
 |zero=>rfl
 |succ k ih=>
  have h2:=gP k;rw[vV,Qo,de,vg,<-ih Mx]
  push_cast
  obtain e|e:=h2<;>rw[e]<;>rfl
def Mj(s:aN)(k:Nat)(hk:k<=18):fW s k=uP s k++replicate (123 - (kK k).toNat) 0:=by
 induction k with
 |zero=>rfl
 |succ k ih=>
  have h1:=yS s k Mx;have h2:=gP k;have h3:=ln k Mx;have h4:=vg k;rw[kq,ih Mx,nE _ _ _ _ _ Mx,vV];congr 1;rw[show 123 - (kK k).toNat - (ia k).toNat=123 - (kK (k+1)).toNat by omega]
def Sm(h:bM s):uP s 18=mH 8 s.gen++mH 4 s.blocks++s.roots.flatMap (mH 4)++s.marks.flatMap (mH 8):=by
 obtain⟨gen,blocks,roots,marks⟩:=s;have hr:=h.r8;have hm:=h.m8;dsimp only at hr hm|-
 match roots,hr with
 |[a0,a1,a2,a3,a4,a5,a6,a7],_=>
  match marks,hm with
  |[b0,b1,b2,b3,b4,b5,b6,b7],_=>
   show((range 18).flatMap λi=>mH (ia i).toNat (([gen,blocks,a0,a1,a2,a3,a4,a5,a6,a7,b0,b1,b2,b3,b4,b5,b6,b7]:List Int).getD i 0))=_;have acf:range 18=[0,1,2,3,4,5,6,7,8,9,10,11,12,13,14,15,16,17]:=Fd;rw[acf];simp only[QH,List.flatMap_nil,Zi,QY];rfl
def Sj(h:bM s):lB (fW s 18) 115 8 s.gen=qx s:=by
 have hl:(uP s 18).length=108:=by have:=yS s 18 go;rw[show kK 18=108 from rfl] at this;omega
 rw[Mj s 18 go,show 123 - (kK 18).toNat=7+8 from rfl,<-Qas,<-QY];rw[nE _ _ _ _ _ (by rw[Qo,QK,hl])];rw[Sm h];unfold qx;simp
structure Bz(w:Wo)(s:aN)(xb pb g vb:Nat)(C:Ox)(pre:List uq)(W:Wo):Prop where
 le:pre.length<=18
 own:dn W g (fW s pre.length)
 sup:aq W xb 60 C
 vb:aq W vb 95 [.slice (some ⟨g,0,none⟩) 123 123]
 box:aq W pb 191 [xb]
 low:Below w w W
def Bz.on(h:Bz w s xb pb g vb C pre W)(hb:ci W W'):Bz w s xb pb g vb C pre W' :=
 ⟨h.le,h.own.aQ (hb.block g h.own.lt),h.sup.on hb,h.vb.on hb,h.box.on hb,Pd h.low hb⟩
def Bz.aL{S:FV}(h:Bz w s xb pb g vb C pre W)(hc:aG S W W')(hS:∀k,(k=g\/k=xb\/k=vb\/k=pb\/k<w.heap.size)->¬S k):Bz w s xb pb g vb C pre W' :=
 ⟨h.le,h.own.aL hc (hS g (.inl rfl)),h.sup.aL hc (hS xb (.inr (.inl rfl))),h.vb.aL hc (hS vb (.inr (.inr (.inl rfl)))),h.box.aL hc (hS pb (.inr (.inr (.inr (.inl rfl))))),h.low.trans (hc.below h.low.size (λx hx=>hS x (.inr (.inr (.inr (.inr hx))))))⟩
def Yg.on{e:uq}(h:Yg xb pb pre e W)(hb:ci W W'):Yg xb pb pre e W' :=
 ⟨h.1,h.2.1,h.2.2.1.aL (λ_ _ hB=>hB.on hb),h.2.2.2.1,(hb.cell (Qfx W _ h.2.2.2.2)).trans h.2.2.2.2⟩
def RW(w:Wo)(s:aN)(h:bM s)(hr:nm s=true):
  Calls prog 40 #[.agg (aP s).toArray] w (Made w (J7 s)):=by
 obtain⟨C,hC⟩:∃C,C=aP s:=⟨_,rfl⟩;obtain⟨W1,aW⟩:∃y,y=w.alloc (.cells C.toArray 60):=⟨_,rfl⟩;obtain⟨xb,eD⟩:∃y,y=w.heap.size:=⟨_,rfl⟩;have X1:Af (aq W1 xb 60 C):=zck;have B1:Af (ci w W1):=zab;have HL:=aa (ef (w:=W1) (b:=xb) (cs:=C) (by rw[hC];exact bK h) (λj v hj=>X1.o.cell hj));have hR:=vB W1 s h;rw[hr,<-hC] at hR;obtain⟨H,gB,xD⟩:=qC h aW.symm eD.symm;rw[<-hC];clear aW eD h;change Af _ at hR hC;refine(Qdb (n:=3)).1 ?_;refine callsIn_of_wp_marks func40 rfl trivial ?_ rfl;simp only[ntmps40,QW,QF,Xq,Nat.reduceAdd,Nat.reduceSub,Xv,Xw,Xx,Xy,QZ,Qaj];refine Qhl.2 ?_;go_upto_region 1 with fail
 rw[gB.o,xD.o];go_upto_region 3 with(first
  |((with_reducible refine wl_load _ _ ?_ HL.o ?_);(·rfl);go_frame)
  |(go_at_call 105;refine Pe hR.o λW2 B2=> ?_))
 have X2:=aa (X1.o.on B2.o);have Uu:=aa (Pd B1.o B2.o);obtain⟨W3,cD⟩:∃y,y=W2.alloc (.cells (replicate 123 (io 0)).toArray 5):=⟨_,rfl⟩;obtain⟨g,hg⟩:∃y,y=W2.heap.size:=⟨_,rfl⟩;have yX:(Instr.makeSlice 95 (ac 123) (ac 123)).run prog W2= .ok (el g 0 123 123) W3:=by have:=eV (P:=prog) underlying95 rD (eC .u8 0) Fd 123 Fd W2;rw[cD,hg];exact this
 have g3:aq W3 g 5 (replicate 123 (io 0)):=by rw[cD,hg];exact ar _ _ _
 have b3:ci W2 W3:=zbr;obtain⟨W4,j7⟩:∃y,y=W3.alloc (.cells #[el g 0 123 123] 95):=⟨_,rfl⟩;obtain⟨vb,oQ⟩:∃y,y=W3.heap.size:=⟨_,rfl⟩;have b4:ci W3 W4:=by rw[j7];exact aF _ _
 have G4:=aa (g3.on b4);have V4:Af (aq W4 vb 95 [el g 0 123 123]):=by show aq _ _ _ _;rw[j7,oQ];exact ar _ [_] _
 have b24:=Pd b3 b4;have X4:=aa (X2.o.on b24);have Ut:=aa (Pd Uu.o b24);have bj:Af (xb<g/\g<vb/\vb<W4.heap.size/\xb=w.heap.size):=⟨by rw[hg];exact X2.o.lt,by rw[oQ];exact g3.lt,V4.o.lt,xD.o.symm⟩;have Bh:=aa j7.symm;have Hvb:=aa oQ.symm;clear cD j7 oQ hg g3 b3 b4 b24 HL hR X1 B1 B2 X2 gB xD;go_upto_region 4 with fail;rw[Bh.o,Hvb.o];clear yX;go_upto_region 5 with(go_at_call 106;refine(vP W4 xb).mono ?_;rintro e W5 ⟨rfl,rfl⟩);have qd:=aF W4 (.cells #[xb] 191);have P5:=ar W4 [xb] 191;obtain⟨W5,j6⟩:∃y,y=W4.alloc (.cells #[xb] 191):=⟨_,rfl⟩;obtain⟨pb,xy⟩:∃y,y=W4.heap.size:=⟨_,rfl⟩;rw[<-j6] at qd P5;rw[<-j6,<-xy];rw[<-xy] at P5;have Iv:Bz w s xb pb g vb C [] W5:=by refine⟨Fd,?_,X4.o.on qd,V4.o.on qd,P5,Pd Ut.o qd⟩;exact(G4.o.on qd).JZ (bs:=replicate 123 0)
 have ID:=aa Iv;have kS:Af (xb<g/\g<vb/\vb<pb/\pb<W5.heap.size/\xb=w.heap.size):=⟨bj.p1,bj.p2,by rw[xy];exact bj.p3,P5.lt,bj.q3⟩;have ZF:=λ(w:Wo) (a:Addr) (f:Fn) (xs ys:Zvv)=>run_store_func (P:=prog) (w:=w) (a:=a) (m:= .plain) f xs ys;simp only[stored] at ZF;clear qd P5 j6 xy Iv G4 V4 X4 Ut Bh Hvb bj;refine(Qhl (n:=3)).1 ?_;refine xZ (α:=uq) (P:=prog) rfl Fd (gf:=174) (lb:= #[pb]) rfl trivial (enters_of func174 KJ rfl) E6 (λ_=>rfl)
  (λk=>k=g) (Yg xb pb) (λpre=>pre.length=18) (Bz w s xb pb g vb C) ?h0 ?hIc ?hit ?hOb
  (λe W=>{tmps:= #[.agg C.toArray,xb,(),ac 0,vb,ac (kK e.k),W,.agg C.toArray,.bool true,.bool false,el g 0 123 123,.func (.func 174) #[] #[pb],ac (kK e.k),.agg #[ac (ia e.k),ip e.get,.func (.func e.f) #[] e.bx],undef,undef,undef,undef,undef,undef,undef,undef,undef,undef,undef,undef,undef,undef,undef],defers:=[]})
  (λe W=>W.alloc (.cells #[ac (ia e.k),ip e.get,.func (.func e.f) #[] e.bx] 194)) (λe W=>aF _ _) ?assign ?body ?done
 case h0=>exact λW hW=>ID.o.on hW
 case hIc=>exact λpre A C' h hc=>h.aL hc (λk hk=>zbw)
 case hOb=>exact λpre x A C' h hb=>h.on hb
 case hit=>
  intro l J W hW hJI hJc hY Iu;refine(Qdb (n:=2)).2 (yI W l xb pb (λk=>k=g) J ⟨hJc,hY,λpre A hj=>(hJI _ _ hj).box,λpre A hj k hk=>⟨_,xP H.o k hk,(hJI _ _ hj).sup.cell (by rw[hC.o];exact uV H.o k hk)⟩,?_,?_⟩ Iu)
  .exact zfw
  .rintro k rfl;exact zfw
 case assign=>
  intro l e W K hK;unfold E6;gi_wp2;exact hK
 case body=>
  intro l pre x W0 o o' ec hI hl AS Ec cz;have aJ:=(Qy.1 AS).1;have F0:=ar W0 [ac (ia x.k),ip x.get,.func (.func x.f) #[] x.bx] 194;have q:aG (λk=>k=l) (W0.alloc (.cells #[ac (ia x.k),ip x.get,.func (.func x.f) #[] x.bx] 194)) ((W0.alloc (.cells #[ac (ia x.k),ip x.get,.func (.func x.f) #[] x.bx] 194)).putObj l o'):=fY _ _ _ _ rfl;have hFI:=hI.aL q (λk hk=>zbw);have hF6:=F0.aL q Mx;have EY:=ec.2.1;have tg:=ec.1;have iO:x.get=(wR s).getD x.k 0:=by have h1:=ec.2.2.2.2;rw[hI.sup.cell (by rw[hC.o];exact uV H.o x.k EY)] at h1;injection h1 with h1;injection h1 with _ h1;exact h1.symm
  obtain⟨W6,jc⟩:∃y,y=(W0.alloc (.cells #[ac (ia x.k),ip x.get,.func (.func x.f) #[] x.bx] 194)).putObj l o' :=⟨_,rfl⟩;rw[<-jc] at hFI hF6|-;have ha:=ln x.k Mx;have hz:=gP x.k;have hf:=xP H.o x.k EY;obtain⟨a,haa⟩:∃a:Nat,kK x.k=a:=⟨(kK x.k).toNat,Mx⟩;obtain⟨z,hzz⟩:∃z:Nat,ia x.k=z:=⟨(ia x.k).toNat,Mx⟩;have hP:=jM W6 g 0 123 123 a z (fW s x.k) x.get (by rw[tg];exact hFI.own) (by rw[gW s x.k Mx];exact go) Mx Mx (by rw[gW s x.k Mx];decide) (by unfold kX at hf;rw[iO];rw[hzz,Xt] at hf;exact hf);rw[<-haa,<-hzz] at hP;have HP:=aa hP;have v0:=hFI.vb.j0;have e0:=hF6.j0;have e1:=hF6.j1;have HFI:=aa hFI;have Hk:Af (x.k<18/\x.k=pre.length/\fW s (x.k+1)=lB (fW s x.k) a z x.get):=⟨EY,tg,by rw[kq,<-iO,haa,hzz,Xt,Xt]⟩;have BK:∀(j:Nat) (ob:Obj),some g=some j->W6.heap[j]? =some ob->ob.isCells=true:=λj ob e h=>by cases e;obtain⟨cs,h0,-⟩:=hFI.own;rw[h0] at h;cases h;rfl
  have EM:=aa BK;clear hP hf ha hz haa hzz iO tg EY hFI hF6 q F0 jc aJ ec hI hl AS Ec cz BK;generalize kK x.k=A at*;generalize ia x.k=Z at*;gi_wp2_with (refine⟨trivial,?_⟩;gi_at_call 107;refine(CallsIn.inRound l (Qdb.2 HP.o)).mono ?_;rintro e W7 ⟨rfl,o7,g7,s7⟩;have O7:=aa o7;have G7:=aa g7;clear o7 g7 s7);have q7:aG (λk=>k=g) W6 W7:=aG.dH G7.o (λj _ e=>(Qr e).symm);have hg:=kS.o;refine⟨KeepsOthers.of_grownBy G7.o EM.o,q7,⟨?_,?_,HFI.o.sup.aL q7 Mx,HFI.o.vb.aL q7 Mx,HFI.o.box.aL q7 Mx,HFI.o.low.trans (q7.below HFI.o.low.size (λk hk e=>Mx))⟩⟩
  .rw[Qo,ZA,<-Hk.p2];exact Hk.p1
  .have h7:=O7.o;rw[Qo,ZA,<-Hk.p2,Hk.q2];rw[QR] at h7;exact h7
 case done=>
  rintro D W pre hD dh hI hK;have bN:=hI.own;rw[dh] at bN;have aJ:=kS.o;have hX:=Sj H.o;have HP:=aa (jM W g 0 123 123 115 8 (fW s 18) s.gen bN (by rw[gW s 18 go];exact go) Fd Fd (by rw[gW s 18 go];decide) H.o.g);have v0:=hI.vb.j0;have x0:W.cell? xb=some (ip s.gen):=hI.sup.cell (by rw[hC.o];rfl);have HV:=aa hI.vb;have HD:Af (W5.heap.size<=D):=hD;have qm:=aa hI.low;clear bN hI hD dh aJ;change Af _ at hX hK;go_upto_region 9 with(go_at_call 107;refine HP.o.mono ?_;rintro e W7 ⟨rfl,o7,g7,s7⟩;have O7:=aa o7;have G7:=aa g7;clear o7 g7 s7);have WC:=DU s 18;have hO7:=O7.o;rw[QR,hX.o] at hO7;have hbX:∀x∈qx s,aI x:=by rw[<-hX.o];exact ye WC _ _ _
  have hlX:(qx s).length=123:=by rw[<-hX.o,u7 (by rw[gW s 18 go];decide),gW s 18 go]
  have AU:=kS.o;have V7:=HV.o.grown G7.o (by intro e;have:=Qr e;omega);have v0:=V7.j0;have iV:=hO7.bs (o:=0) (n:=123) (c:=123) Mx go Fd hbX;rw[Zl,Qj Mx] at iV;have pW:=aa (uY W7 6 (el g 0 123 123) (qx s) ⟨Fd,Fd⟩ iV Mx);have K7:Af (W7.heap[D]? =some (.deferred (some []))):=(G7.o.block D (Qy.1 hK.o).1 (λe=>by have:=Qr e;have:=HD.o;omega)).trans hK.o;have L7:Af (ci w W7):=qm.o.grown G7.o qm.o.size (λk e=>zdL);clear WC hO7 hbX hlX V7 iV x0 HP HV qm AU;go_wp2_with(go_at_call 108;refine pW.o.mono ?_;rintro e W8 ⟨rfl,o8,b8⟩;have O8:=aa o8;have B8:=aa b8;clear o8 b8);have K8:=(B8.o.block D (Qy.1 K7.o).1).trans K7.o;refine⟨Sv,.inl ⟨_,_,rfl,run_takeDeferred K8,?_⟩⟩;have AU:=kS.o;have hD:=HD.o;have hDl:=(Qy.1 K7.o).1;refine⟨_,results_tmp2 (t:=2) (u:=3) rfl _ _ _,W7.heap.size,L7.o.size,rfl,O8.o.aQ (World.putObj_heap_other Mx),?_⟩;exact(Pd L7.o B8.o).trans (fM _ D _ Mx)
def wrap32{n:Int}(h0:0<=n)(h1:n<4294967296):IntKind.u32.wrap n=n:=ww
def Ve(W:Wo)(pb xb k f:Nat)(bx:Zvv)(n:Int)(C:Ox)(hs:sJ W pb k (.func (.func f) #[] bx))(hp:aq W pb 191 [xb])(hx:aq W xb 60 C)(hn:kX k n)(hC:∀j,j<18->∃u,C[j]? =some (.int (fy j) u)):
  Calls prog f (#[.int .u64 n]++bx) W λe W' =>(∃v,e= .returned v)/\aq W' xb 60 (C.set k (.int (fy k) n))/\aG (λj=>j=xb) W W' :=by
 have p0:=hp.j0;have Hx:=aa hx;have jy:=hn;unfold kX at jy;rcases hs with⟨rfl,e⟩|⟨rfl,e⟩|⟨i,ib,hi,rfl,e,ub⟩|⟨i,ib,hi,rfl,e,ub⟩
 .cases e;obtain⟨u,hu⟩:=hC 0 Fd;have x0:=hx.cell hu;have f0:=hx.free 0;show Calls _ _ #[.int .u64 n,pb] _ _;clear hp hx hn hC jy hu;go_in;go_wp2;go_end0;exact⟨⟨_,rfl⟩,Hx.o.set 0 _,nL _ _ _ _⟩
 .cases e;obtain⟨u,hu⟩:=hC 1 Fd;have x0:=hx.cell hu;have f0:=hx.free 1;have hw:=wrap32 jy.1 jy.2;show Calls _ _ #[.int .u64 n,pb] _ _;clear hp hx hn hC jy hu;go_in;go_wp2;go_end0;exact⟨⟨_,rfl⟩,Hx.o.set 1 _,nL _ _ _ _⟩
 .cases e;obtain⟨u,hu⟩:=hC (2+i) Mx;have hk:fy (2+i)= .u32:=by rw[fy,Xd Mx,Xo Mx]
  have hz:ia (i+2)=4:=by rw[ia,Xd Mx,Xo Mx]
  rw[hz] at jy;have x0:W.cell? ⟨xb,2+i,none⟩=some (.int .u32 u):=hk▸(hx.cell hu);have f0:=hx.free (2+i);have i0:=ub.j0;have hw:=wrap32 jy.1 jy.2;have ml:(0:Int)<=i:=Mx;have hi1:(i:Int)<8:=Mx;have Ni:=hi;have Hk:=aa hk;show Calls _ _ #[.int .u64 n,pb,ib] _ _;rw[Qcm i 2,hk];clear hp hx hn hC jy hu hk hz ub hi;go_in;refine Qat 7 KJ KJ ?_;simp only[Zw,Zq,Zk,Zl];change wpStill _ _ (World.drew W) (λa' =>wpList _ _ _ _ a' (World.drew W)) _ _;repeat still_step
  refine Qdf ?_;go_wp2;go_end0;exact⟨⟨_,rfl⟩,Hx.o.set (2+i) _,(nL _ _ _ _).drew⟩
 .cases e;obtain⟨u,hu⟩:=hC (10+i) Mx;have hk:fy (10+i)= .u64:=by rw[fy,Xd Mx,Xd Mx]
  have x0:W.cell? ⟨xb,10+i,none⟩=some (.int .u64 u):=hk▸(hx.cell hu);have f0:=hx.free (10+i);have i0:=ub.j0;have ml:(0:Int)<=i:=Mx;have hi1:(i:Int)<8:=Mx;have Ni:=hi;show Calls _ _ #[.int .u64 n,pb,ib] _ _;rw[Qcm i 10,hk];clear hp hx hn hC jy hu hk ub hi;go_in;refine Qat 6 KJ KJ ?_;simp only[Zw,Zq,Zk,Zl];change wpStill _ _ (World.drew W) (λa' =>wpList _ _ _ _ a' (World.drew W)) _ _;repeat still_step
  refine Qdf ?_;go_wp2;go_end0;exact⟨⟨_,rfl⟩,Hx.o.set (10+i) _,(nL _ _ _ _).drew⟩
def Lo(bs:Fr):decide (0<Lib.maxOf bs)= !(bs.all (·<=0)):=by
 have key:∀(l:Fr) (h:Int),decide (0<l.foldl max h)= !(decide (h<=0)&&l.all (·<=0)):=by
  intro l;induction l with
  |nil=>intro h;simp only[List.foldl_nil,Qgb,Qgx];rw[<-decide_not];exact decide_eq_decide.2 Mx
  |cons x l ih=>
   intro h;rw[Qak,ih,Qce,<-Bool.and_assoc,<-Bool.decide_and];congr 2;exact decide_eq_decide.2 Mx
 rw[Lib.maxOf,key];cases bs with
 |nil=>rfl
 |cons x l=>rw[List.headD_cons,Qce,<-Bool.and_assoc,Qgy]
def Rv(w:Wo)(B:Nat)(v:Va)(bs:Fr)(hb:Bs w B v bs)(h0:0<bs.length)(hl:bs.length<=100000):
  Calls prog 185 #[v] w (iF (io (Lib.maxOf bs)) λw' =>w=w') :=by
 obtain⟨b,o,c,rfl,hc,hm,EW,iH⟩:=hb.ns.cells h0;have⟨L,hL⟩:=eX bs.length;have HL:=aa hL;have Hc:Af (∀j,j<L->jp w b (o+j) (io (bs.getD j 0))):=λj hj=>iH j Mx;have Hl:Af (L<=100000):=by show L<=_;omega
 have c0:=Hc.o 0 Mx;rw[XC] at c0;have hL0:(0:Int)<L:=Mx;have hLn:¬(L:Int)<1:=Mx;have HM1:=aa ((Lib.maxOf_one bs).symm);rw[<-hL] at hc|-;generalize bs.getD 0 0=z at*;clear iH hL hb h0 hl EW;unfold maxLen at hm;go_in;go_wp2;go_loopw [3,4] (λm i wr=>∃k:Nat,1<=k/\k<=L/\i= ac k/\wr=w/\m= io (Lib.maxOf (bs.take k))) (λ_ i _=>L - (intOf i).toNat)
 .exact⟨1,go,Mx,rfl,If,by rw[HM1.o]⟩
 .obtain⟨k,hk1,hk,rfl,rfl,rfl⟩:=hrel;by_cases aJ:k<L
  .have hkL:(k:Int)<L:=(by omega);have SK:(0:Int)<=k:=Mx;have EX:wrap64 ((k:Int)+1)=(k:Int)+1:=(by have:=Hl.o;exact vW);have jb:=Hc.o k aJ;have bj:=aa aJ;have Hs:=aa (Lib.maxOf_step bs k Mx zbH);generalize Lib.maxOf (bs.take k)=m at*;generalize bs.getD k 0=x at*;clear aJ hk;go_wp2;go_roundw
   .exact⟨k+1,Mx,bj.o,zcL,If,by rw[Hs.o];first|rfl|(split<;>rfl)|trace_state⟩
   .first|exact oh bj.o|(rw[EX];exact oh bj.o)
  .obtain rfl:k=L:=(by omega);clear aJ hk;have ahT:Af (bs.take k=bs):=Qj zbH;go_wp2_with fail;go_ret;exact⟨by rw[ahT.o];rfl,rfl⟩
def YK(bs:Fr)(i:Nat)(h:i<bs.length):cK bs i 1=bs.getD i 0:=by
 unfold cK;have e:(bs.drop i).take 1=[bs[i]]:=by rw[Zd h];rfl
 rw[e,Qe,Qf h];simp[j4]
def yB{bs:Fr}(hb:∀x∈bs,aI x)(p:Nat):0<=cK bs p 1/\cK bs p 1<256:=by have h1:=lR ((bs.drop p).take 1) (λx hx=>hb x (Q6 (Za hx)));refine⟨h1.1,Qgw h1.2 ?_⟩;have h2:((bs.drop p).take 1).length<=1:=zcK;generalize ((bs.drop p).take 1).length=n at*;rcases(show n=0\/n=1 by omega) with rfl|rfl<;>decide
def ez(body:Fr)(k:Nat):List aD:=(range k).map (xI body)
def GJ(body:Fr)(k:Nat):ez body (k+1)=ez body k++[xI body k]:=by simp[ez,Qbd]
def LU(body:Fr)(k:Nat):(ez body k).length=k:=by simp[ez]
def aG.rE{w w' :Wo}{P:Nat}(h:aG (λx=>x=P) w w'):w.grownBy w' (some P):=⟨h.os,h.tape,h.output,h.size,λk hk bT=>h.block k hk (λe=>bT zbl)⟩
def Fg(w:Wo)(cs:Ox)(t:Fy)(sz:Nat)(hs:cs.length=sz):Sl (w.alloc (.cells cs.toArray t)) (w.heap.size+1) sz (el w 0 1 1) 1 cs:=
 kT Mx go Do (Jc w cs t)
def qQ(x y:Int):∀u∈([ip x,gc y]:List Va),u.oneCell' =true:=by intro u hu;simp only[QA,QV,Qiy] at hu;obtain rfl|rfl:=hu<;>rfl
def lx(W:Wo)(b j:Nat)(v:Va):W.grownBy (W.setCell (an b j) v) (some b):=
 ⟨rfl,rfl,rfl,Sv,λk _ bT=>Xl _ _ _ _ (λe=>bT zbl)⟩
def yq{k L:Nat}(h:k<L):L - (intOf (ip ((k:Int)+1))).toNat<L - (intOf (ip (k:Int))).toNat:=zaK
def RV(body:Fr)(hb:∀x∈body,aI x)(i:Nat):eR (xI body i):=by
 obtain⟨x0,x1⟩:=cW hb (6+12*i) 8;obtain⟨y0,y1⟩:=cW hb (6+12*i+8) 4;refine⟨⟨x0,?_⟩,⟨y0,?_⟩⟩
 .show cK body (6+12*i) 8<_;simpa using x1
 .show cK body (6+12*i+8) 4<_;simpa using y1
def VM{p body:Fr}(ho:dy p=some (3,body))(hl:body.length=123):mJ p=if cK body 1 1<=9 then(if bC ⟨cK body 0 1,cK body 2 4,ez body (cK body 1 1).toNat⟩=true/\(body.drop (6+12*(cK body 1 1).toNat)).all (·==0)=true then some ⟨cK body 0 1,cK body 2 4,ez body (cK body 1 1).toNat⟩ else none) else none:=by
 rw[mJ,ho];simp only;rw[YK body 0 Mx,YK body 1 Mx];by_cases h:body.getD 1 0<=9
 .rw[Xo ⟨trivial,h⟩,Xo h];rfl
 .rw[Xd (λe=>h e.2),Xd h]
def Mc(w:Wo)(v:Va)(p:Fr)(h:Bs w w v p)(body:Fr)(ho:dy p=some (3,body)):
  Calls prog 69 #[v] w (ShR w p):=by
 obtain⟨A,c,rfl,-,-⟩:=h.1.form;have⟨W0,aY⟩:=eX (w.alloc (.cells #[io 0,gc 0,()] 79));have R0:Af (aq W0 w 79 [io 0,gc 0,()]):=zaN;have B0:Af (ci w W0):=zay;have jr:Bs W0 W0 (am A p.length c) p:=⟨(h.1.below B0.o).more B0.o.size,h.2⟩;have HO:=aa (nH jr ho);obtain⟨fg,-,bO⟩:=jO ho h.2;have Hb:=dK fg bO;have⟨m,hm⟩:=eX p.length;rw[<-hm] at HO|-;have HW:=aa aY.symm;have Hop:=aa ho;clear h aY hm jr ho fg bO;go_in;go_upto_region 1 with fail;rw[HW.o];go_upto_region 4 with(go_at_call 130;refine HO.o.mono ?_;rintro e W1 ⟨A1,c1,rfl,o1,s1,b1⟩;have S3:=aa s1;have B1:=aa b1;clear o1 s1 b1);have⟨P,hP⟩:=eX W1.heap.size;obtain⟨W2,cE,-,sq⟩:=nW W1 [am A1 123 c1,ac 0] 215;have K2:Af (aq W2 P 215 (uy (am A1 123 c1) ((0:Nat):Int))):=by show _=_;rw[cE,hP];exact ar W1 _ _
 have B2:=aa sq;have HP:Af (W1.heap.size<=P):=by show _<=_;rw[hP];exact go
 have Tb:=aa cE.symm;have HPq:=aa hP.symm;have HG:Af (∀(W:Wo) (q s:Nat) (sI:Int),sI=(s:Int)->aq W P 215 (uy (am A1 123 c1) (q:Int))->ci W1 W->(1<=s/\s<=8)->q+s<=123->Calls prog 137 #[P,ac sI] W (iF (ip (cK body q s)) λw' =>aq w' P 215 (uy (am A1 123 c1) ((q+s:Nat):Int))/\aG (λx=>x=P) W w'/\w'.heap.size=W.heap.size)):=
  λW q s sI hI hk MJ hs hq=>by rw[hI];exact Vm W P W1 A1 123 c1 q s body hk ⟨S3.p1.below MJ,S3.q1⟩ hs zaV zaV
 clear cE hP sq;go_upto_region 6 with fail;rw[Tb.o,HPq.o];have HG1:=aa (HG.o W2 0 1 1 rfl K2.o B2.o Fd Fd);obtain⟨d0,d1⟩:=yB Hb.q1 0;obtain⟨m0,m1⟩:=yB Hb.q1 1;obtain⟨n0,n1⟩:=cW Hb.q1 2 4;have⟨d,hd⟩:=eX (cK body 0 1);have⟨mi,hmi⟩:=eX (cK body 1 1);have⟨nx,fu⟩:=eX (cK body 2 4);have Hd:=aa hd;have Hmi:=aa hmi;have NI:=aa fu;rw[<-hd] at HG1 d0 d1;rw[<-hmi] at m0 m1;rw[<-fu] at n0 n1;have hwd:IntKind.u8.wrap d=d:=AI;have Tt:IntKind.u32.wrap nx=nx:=by simp at n1;exact AI
 have HN:Af (aI d/\aI mi/\bX nx):=⟨⟨d0,d1⟩,⟨m0,m1⟩,⟨n0,by simpa using n1⟩⟩;clear hd hmi fu d0 d1 n0 n1;go_upto_region 7 with(go_at_call 137;refine HG1.o.mono ?_;rintro e W3 ⟨rfl,k3,c3,s3⟩;have K3:=aa k3;have B3:=aa (B2.o.trans (c3.below B2.o.size (λx hx e=>zch)));clear k3 c3 s3);have⟨S9,hS9⟩:=eX W3.heap.size;obtain⟨W4,j7,-,sm⟩:=nW W3 [io d,gc 0,()] 79;have T4:Af (aq W4 S9 79 [io d,gc 0,()]):=by show _=_;rw[j7,hS9];exact ar W3 _ _
 have K4:=aa (K3.o.on sm);have B4:=aa (Pd B3.o sm);have HS:Af (W1.heap.size<=S9/\S9≠P):=⟨by rw[hS9];exact B3.o.size,by rw[hS9];have:=K3.o.lt;omega⟩;rw[<-j7,<-hS9];clear j7 sm hS9 HG1;have wM:=aa (HG.o W4 1 1 1 rfl K4.o B4.o Fd Fd);rw[<-Hmi.o] at wM;go_upto_region 8 with(go_at_call 137;refine wM.o.mono ?_;rintro e W5 ⟨rfl,k5,c5,s5⟩;have K5:=aa k5;have T5:=aa (T4.o.aL c5 HS.q1);have B5:=aa (B4.o.trans (c5.below B4.o.size (λx hx e=>zch)));clear k5 c5 s5);have HG3:=aa (HG.o W5 2 4 4 rfl K5.o B5.o Fd Fd);rw[<-NI.o] at HG3;clear wM;go_upto_region 9 with(go_at_call 137;refine HG3.o.mono ?_;rintro e W6 ⟨rfl,k6,c6,s6⟩;have K6:=aa k6;have T6:=aa (T5.o.aL c6 HS.q1);have B6:=aa (B5.o.trans (c6.below B5.o.size (λx hx e=>zch)));have t1:=T6.o.j1;have tf:=T6.o.free 1;clear k6 c6 s6);have T7:Af (aq (W6.setCell (an S9 1) (gc nx)) S9 79 [io d,gc nx,()]):=T6.o.set 1 _;have K7:Af (aq (W6.setCell (an S9 1) (gc nx)) P 215 (uy (am A1 123 c1) ((6:Nat):Int))):=K6.o.az (Xm HS.q1) _;have B7:Af (ci W1 (W6.setCell (an S9 1) (gc nx))):=B6.o.setCell HS.p1 _;clear t1 tf HG3 hwd Tt K6 T6 B6 K5 T5 B5 K4 T4 B4 K3 B3;generalize W6.setCell (an S9 1) (gc nx)=W7 at*;have HdS:=aa (VM Hop.o Hb.p1);rw[<-Hd.o,<-Hmi.o,<-NI.o] at HdS;by_cases h9:9<mi
 .have hd:Af (mJ p=none):=by show _=_;rw[HdS.o,Xd Mx]
  have S1:=aa ((R0.o.on B1.o).on B7.o);obtain⟨y0,y1,y2⟩:=ra S1.o;have f1:=S1.o.free;go_wp2_with fail;refine Qar (cG rfl rfl (gU (S1.o.JY (io 0) (gc 0) ()))) rfl ?_;exact⟨iG (Pd B0.o (Pd B1.o B7.o)) go,.inl ⟨hd.o,rfl⟩⟩
 .obtain⟨M,hM⟩:∃M:Nat,M=mi.toNat:=⟨_,rfl⟩;have hmM:mi=(M:Int):=by omega
  subst hmM;have HM:Af (M<=9):=by show M<=9;omega
  have hdS:Af (mJ p=if bC ⟨d,nx,ez body M⟩=true/\(body.drop (6+12*M)).all (·==0)=true then some ⟨d,nx,ez body M⟩ else none):=by show _=_;rw[HdS.o,Xo Mx,<-hM]
  clear hM m0 m1;go_wp2_with fail;go_loopw [43] (λi wr=>∃k:Nat,k<=M/\i= ip k/\Af ((∃u,aq wr S9 79 [io d,gc nx,u]/\cV wr W1 u (ez body k))/\aq wr P 215 (uy (am A1 123 c1) ((6+12*k:Nat):Int))/\ci W1 wr)) (λi _=>M - (intOf i).toNat)
  .exact⟨0,lm,rfl,⟨_,T7.o,Qbn _ _ _ _⟩,K7.o,B7.o⟩
  .obtain⟨k,hk,rfl,hK⟩:=hrel;obtain⟨⟨u,ht,hu⟩,hp,hb⟩:=hK.o;have T8:=aa ht;have U8:=aa hu;have K8:=aa hp;have B8:=aa hb;clear hK ht hu hp hb;obtain⟨Au,nu,cu,huv⟩:∃A n c,u= am A n c:=(by rcases U8.q1 with⟨h1,_⟩|⟨g,cap,cur,h1,_⟩<;>exact⟨_,_,_,h1⟩);subst huv;by_cases aJ:k<M
   .have hkL:(k:Int)<M:=(by omega);have SK:(0:Int)<=k:=Mx;have bj:=aa aJ;have HGa:=aa (HG.o wr.drew (6+12*k) 8 8 rfl K8.o B8.o.drew Fd zbK);obtain⟨x0,x1⟩:=cW Hb.q1 (6+12*k) 8;obtain⟨y0,y1⟩:=cW Hb.q1 (6+12*k+8) 4;have⟨x,hx⟩:=eX (cK body (6+12*k) 8);have⟨y,hy⟩:=eX (cK body (6+12*k+8) 4);have Hxy:=dK (by unfold xI;rw[<-hx,<-hy]:xI body k=⟨x,y⟩) hy;rw[<-hx] at HGa x0 x1;rw[<-hy] at y0 y1;have hwy:IntKind.u32.wrap y=y:=(by simp at y1;exact AI);have tH:=aa (GJ body k);have Hl:Af ((ez body k).length<=9):=(by show _<=_;rw[LU];have:=HM.o;omega);have t0:=T8.o.j2;have HnP:=aa (aq.not_row K8.o Fd U8.o);have Ed:IntKind.u64.wrap ((k:Int)+1)=(k:Int)+1:=(by have:=HM.o;exact AI);clear aJ hk hx hy x0 x1 y0 y1;go_wp2_with fail;go_region_law
     (first
      |(go_simp;(go_at_call 137);(with_reducible refine HGa.o.mono ?_);rintro e W2 ⟨rfl,k2,c2,s2⟩;have C2:Af (aG (λx=>x=P) wr W2):=⟨c2.os,c2.tape,c2.output,c2.size,c2.block⟩;have B9:=aa (B8.o.trans (C2.o.below B8.o.size (λx hx e=>zch)));have T9:=aa (T8.o.aL C2.o HS.q1);have t9:=T9.o.j2;have HGb:=HG.o W2 _ 4 4 rfl k2 B9.o Fd (by have:=HM.o;have:=bj.o;omega);rw[<-Hxy.q1] at HGb;have HGc:=aa HGb;clear HGb k2 c2 s2)
      |(go_simp;(go_at_call 137);(with_reducible refine HGc.o.mono ?_);rintro e W3 ⟨rfl,k3,c3,s3⟩;have WQ:=aa k3;have oU:=aa (B9.o.trans (c3.below B9.o.size (λx hx e=>zch)));have T10:=aa (T9.o.aL c3 HS.q1);have t10:=T10.o.j2;have avE:=(T10.o.alloc (.cells #[ip x,gc y] 29)).j2;have U10:=Qac (Qac U8.o C2.o.rE (.inr HnP.o)) c3.rE (.inr HnP.o);have UA:=aa (aS U10 (aF W3 (.cells #[ip x,gc y] 29)));have XA:=aa (Fg W3 [ip x,gc y] 29 2 rfl);clear U10 k3 c3 s3)
      |((with_reducible refine nX (os:= .tmp 46) (ox:= .tmp 53) W1 77 29 (.agg #[ip 0,gc 0]) 2 16 underlying77 IL ?_ ?_ (am Au nu cu) (ez body k).length ((ez body k).flatMap dC) UA.o (el W3 0 1 1) 1 [ip x,gc y] XA.o ?_ ?_ ?_ ?_ ?_ ?_ ?_);(·rfl);(·decide);(·exact qQ x y);(·have:=Hl.o;unfold maxLen;omega);(·have:=Hl.o;omega);(·exact Qh oU.o.size Sv);(·rfl);(·rfl);intro v4 w4 ua og;obtain⟨g4,Og,rfl⟩:=ownsRow_succ ua;have U4:=aa ua;have G4:=aa og;have T4:=aa ((T10.o.alloc (.cells #[ip x,gc y] 29)).grown og (Xm (aq.not_row (T10.o.alloc (.cells #[ip x,gc y] 29)) Fd UA.o)));have t4:=T4.o.j2;have tf4:=T4.o.free 2;clear ua og))
    all_goals
     have T11:=aa (T4.o.set 2 (el g4 0 ((ez body k).length+1) Og));go_wp2_with fail;go_roundw
     .have anm:=(Pd oU.o (aF W3 (.cells #[ip x,gc y] 29))).grown G4.o (Qh oU.o.size Sv) (λj e=>(Xr UA.o j e).1);refine⟨k+1,bj.o,zcL,⟨_,T11.o,?_⟩,?_,anm.setCell HS.p1 _⟩
      .have hu:=Qac U4.o (lx w4 S9 2 (el g4 0 ((ez body k).length+1) Og)) (.inr (aq.not_row T4.o Fd U4.o));unfold cV;rw[tH.o,Hxy.p1,Qo,QP];exact hu
      .have hk4:=((WQ.o.alloc (.cells #[ip x,gc y] 29)).grown G4.o (Xm HnP.o)).az (p:=an S9 2) (Xm HS.q1) (el g4 0 ((ez body k).length+1) Og);rw[show 6+12*(k+1)=6+12*k+8+4 by omega];exact hk4
     .first|exact yq bj.o|(rw[Ed];exact yq bj.o)
   .obtain rfl:k=M:=(by omega);have eE:Es wr wr (am Au nu cu) (ez body k):=⟨Sl.bU U8.o,λe he=>by obtain⟨j,_,rfl⟩:=QU.1 he;exact RV body Hb.q1 j⟩;have HR:=aa (rO wr ⟨d,nx,ez body k⟩ (am Au nu cu) eE HN.p1 HN.q2);have Hes:=aa eE.2;have⟨rb,ft⟩:=eX (bC ⟨d,nx,ez body k⟩);have wD:=aa ft;rw[<-ft] at HR;simp only at HR;obtain⟨t0,t1,t2⟩:=ra T8.o;have NH:=aa (Pd B0.o (Pd B1.o B8.o));have R8:=aa ((R0.o.on B1.o).on B8.o);have anQ:=aa (Qn R0.o.lt B1.o.size);clear aJ hk eE ft;cases rb with
    |false=>
     have hd:Af (mJ p=none):=(by show _=_;rw[hdS.o,<-wD.o,Xd Sv]);go_upto_region 16 with(go_at_call 122;refine HR.o.mono ?_;rintro e W9 ⟨rfl,b9⟩;have B9:=aa b9;clear b9);have S1:=aa (R8.o.on B9.o);obtain⟨y0,y1,y2⟩:=ra S1.o;have f1:=S1.o.free;clear t0 t1 t2;exact zez
    |true=>
     obtain⟨b,o,c',hv,-,-,hr⟩:=S3.p1.row zaV;injection hv with e1 e2 e3;subst e1;subst e3;clear e2;obtain⟨A9,c9,Ea,hc9,hm9⟩:=S3.p1.form;injection Ea with e1 e2 e3;subst e3;clear e1 e2;have YH:123<=c1:=zaV;have⟨q,hq⟩:=eX (6+12*k);have hq9:q<=114:=zbK;have hqc:q<c1:=Mx;have hqi:(q:Int)<=123:=Mx;have avL:(0:Int)<=q:=Mx;have HK:Af (aq wr P 215 (uy (el b o 123 c1) (q:Int))):=(by show aq _ _ _ _;rw[hq];exact K8.o);have Wx:((body.drop q).length=123 - q):=(by rw[Zt,Hb.p1]);have EL:Af (∀W,ci wr W->Calls prog 138 #[el b (o+q) (123 - q) (c1 - q),.func (.func 139) #[] #[]] W (iF (.bool (!((body.drop q).all (·==0)))) λw' =>W=w')):=λW hW=>by
      refine LD W W _ (body.drop q) ?_ (by rw[Wx];omega) (by rw[Wx];omega);refine⟨?_,λx hx=>Hb.q1 x (Q6 hx)⟩;rw[Wx];refine kT (by rw[Qq,Wx];omega) Mx (by unfold maxLen at hm9|-;omega) ⟨?_,λj u hu=> ?_⟩
      .exact Qn hr.1 (Qh B8.o.size hW.size)
      .rw[hW.cell (Qn hr.1 B8.o.size),B8.o.cell hr.1,XB];rw[Qgt,Zb] at hu;exact hr.2 (q+j) u hu
     have aba:Af (mJ p=if(body.drop q).all (·==0)=true then some ⟨d,nx,ez body k⟩ else none):=(by show _=_;rw[hdS.o,<-wD.o,hq];simp);have⟨nz,hnz⟩:=eX ((body.drop q).all (·==0));rw[<-hnz] at EL aba;clear hr hc9 hm9 hq Wx hnz YH;cases nz with
     |false=>
      have hd:Af (mJ p=none):=by show _=_;rw[aba.o,Xd Sv]
      go_upto_region 16 with(first
       |(go_at_call 122;refine HR.o.mono ?_;rintro e W9 ⟨rfl,b9⟩;have B9:=aa b9;have k1:=(HK.o.on b9).j1;clear b9)
       |(go_at_call 138;(with_reducible refine(EL.o _ B9.o).mono ?_);rintro e uh ⟨rfl,rfl⟩))
      have S1:=aa (R8.o.on B9.o);obtain⟨y0,y1,y2⟩:=ra S1.o;have f1:=S1.o.free;clear t0 t1 t2 k1;exact zez
     |true=>
      have hd:Af (mJ p=some ⟨d,nx,ez body k⟩):=by show _=_;rw[aba.o,Xo rfl]
      go_upto_region 17 with(first
       |(go_at_call 122;refine HR.o.mono ?_;rintro e W9 ⟨rfl,b9⟩;have B9:=aa b9;have k1:=(HK.o.on b9).j1;clear b9)
       |(go_at_call 138;(with_reducible refine(EL.o _ B9.o).mono ?_);rintro e uh ⟨rfl,rfl⟩))
      have S1:=aa (R8.o.on B9.o);have T9:=aa (T8.o.on B9.o);have U9:=aa (aS U8.o B9.o);obtain⟨y0,y1,y2⟩:=ra S1.o;have f1:=S1.o.free;clear t0 t1 t2 k1;obtain⟨t0,t1,t2⟩:=ra T9.o;go_wp2_with fail;refine Qar (cG rfl rfl (gU (S1.o.JY (io d) (gc nx) (am Au nu cu)))) rfl ?_;refine⟨iG (Pd NH.o B9.o) go,.inr ⟨_,am Au nu cu,hd.o,rfl,?_,Hes.o,HN.p1,HN.q2⟩⟩;have bT:∀(W:Wo) (cs:Ox),aq W w 79 cs->W.ownsRow W1 29 2 (am Au nu cu) (ez body k).length ((ez body k).flatMap dC)->∀(j:Nat) (u:Va),(W.setCell (an w.heap.size j) u).ownsRow W1 29 2 (am Au nu cu) (ez body k).length ((ez body k).flatMap dC):=
       λW cs hb hu j u=>Qac hu (lx W _ j u) (.inr (aq.not_row hb Fd hu))
      have h1:=bT _ _ S1.o U9.o 0 (io d);have h2:=bT _ _ (S1.o.set 0 (io d)) h1 1 (gc nx);have h3:=bT _ _ ((S1.o.set 0 (io d)).set 1 (gc nx)) h2 2 (am Au nu cu);refine⟨h3.1,?_⟩;obtain h4|⟨g,cap,cur,h4,h5,h6⟩:=h3.2
      .exact .inl h4
      .exact .inr ⟨g,cap,cur,h4,by have:=anQ.o;omega,h6⟩
def Sb(w:Wo)(v:Va)(p:Fr)(h:Bs w w v p):Calls prog 69 #[v] w (ShR w p):=by
 cases ho:dy p with
 |none=>exact CW w v p h (.inl ho)
 |some q=>
  obtain⟨k',body⟩:=q;by_cases h1:k' =3
  .subst h1;exact Mc w v p h body ho
  .exact CW w v p h (.inr ⟨k',body,ho,h1⟩)
variable{b:Nat}{cs:Ox}
def OY(w:Wo)(p:Fr)(e:Ending)(w' :Wo):Prop:=
 Below w w w'/\((kA p=none/\e= .returned (.tuple #[.agg (aP aV).toArray,.int .i64 60]))\/∃s,kA p=some s/\bM s/\e= .returned (.tuple #[.agg (aP s).toArray,.int .i64 0]))
def Cb:bM aV:=by refine⟨rfl,rfl,⟨Fd,Fd⟩,⟨Fd,Fd⟩,λx hx=> ?_,λx hx=> ?_⟩<;>rw[QJ hx]<;>exact⟨Fd,Fd⟩
def dX{n:Nat}(h:aq w b t cs)(hn:n<=cs.length):w.there b 0 n:=λj hj=>by obtain⟨v,hv⟩:∃v,cs[j]? =some v:=⟨_,Qf Mx⟩;rw[QR];exact⟨by rw[h.cell hv];rfl,h.free j⟩
def aq.fill{vs:Ox}(h:aq w b t cs)(hl:vs.length=cs.length):aq (w.setCells b 0 vs) b t vs:=by have h1:=mh vs 0 w cs h Mx;rw[Zq,QZ,Zu Mx,Zi] at h1;exact h1
def cN{S:FV}{a:Wo}(hb:S b):∀(vs:Ox) (o:Nat) (w:Wo),aG S a w->aG S a (w.setCells b o vs)
 |[],_,_,h=>h
 |v::r,o,_,h=>cN hb r (o+1) _ (h.setCell (p:=an b o) (λ_=>hb) v)
def eZ(hl:cs.length=18)(h:∀j v,cs[j]? =some v->jp w b j v):(loadVar 60 (ol b)).run prog w= .ok (.agg cs.toArray) w:=by have h1:=Qay (P:=prog) w (ol b) cs (λj v hj=>by rw[dP,QR];exact h j v hj);simp only[hl] at h1;have h2:(isAgg 60).run prog w= .ok true w:=KJ;have h3:(sizeOf 60).run prog w= .ok 18 w:=KJ;exact zfI
def ka:(prog.info? 60).map (·.size)=some 18:=KJ
def fJ:(aP aV).toArray.all (·.oneCell')=true:=all_oneCell_toArray (jI aV)
def zfR(w:Wo)(v:Va)(p:Fr)(h:Bs w w v p)(eJ:dy p=none):
  Calls prog 117 #[v] w (OY w p):=by
 obtain⟨A,c,rfl,-,-⟩:=h.1.form;have⟨W0,aY⟩:=eX (w.alloc (.cells (aP aV).toArray 60));have R0:Af (aq W0 w 60 (aP aV)):=zcv;have B0:Af (ci w W0):=zay;have jr:Bs W0 W0 (am A p.length c) p:=⟨(h.1.below B0.o).more B0.o.size,h.2⟩;have HO:Af (Calls prog 130 #[am A p.length c] W0 (iF (.tuple #[io 0,(),ac 10]) λw' =>ci W0 w')):=(qM W0 _ p jr).mono λe w' h=>by
  obtain⟨hb,⟨-,h1⟩|⟨k',YP,v',h2,-,-⟩⟩:=h
  .exact⟨h1,hb⟩
  .rw[eJ] at h2;cases h2
 have hd:Af (kA p=none):=by show _=_;unfold kA;rw[eJ]
 have HW:=aa aY.symm;generalize p.length=m at*;clear h aY jr eJ;refine(Qdb (n:=3)).1 ?_;refine callsIn_of_wp_marks func117 rfl trivial ?_ rfl;simp only[ntmps117,QW,QF,Xq,Nat.reduceAdd,Nat.reduceSub,Xv,Xw,Xx,Xy,QZ,Qaj];refine Qhl.2 ?_;go_upto_region 1 with fail;change Code.wp _ _ _ _ (w.alloc (.cells (aP aV).toArray 60));rw[HW.o];go_upto_region 3 with(go_at_call 130;refine HO.o.mono ?_;rintro e W1 ⟨rfl,b1⟩;have B1:=aa b1;clear b1);have⟨W2,cE⟩:=eX (W1.alloc (.cells #[()] 95));rw[<-cE];have b2:ci W1 W2:=zdq;have R2:=aa ((R0.o.on B1.o).on b2);have B2:=aa (Pd B0.o (Pd B1.o b2));clear cE b2 HW HO;go_wp2_with(((refine wpList_store_mid rfl 60 _ _ rfl w 0 (aP aV).toArray ?_ ?_ (dX R2.o ?_) ?_ fJ ?_);(·rfl);(·rfl);(·exact go);(·exact ka);go_frame));have C3:=cN (S:=λx=>x=w.heap.size) rfl (aP aV) 0 W2 (aG.refl _ W2);have R3:=R2.o.fill (vs:=aP aV) rfl;exact⟨_,cG rfl rfl (eZ (cs:=aP aV) rfl (λj v hj=>R3.cell hj)),B2.o.trans (C3.below B2.o.size (λx hx e=>Mx)),.inl ⟨hd.o,rfl⟩⟩
variable{body:Fr}{n0:Nat}{rest:List Oper}
def tq(body:Fr)(k:Nat):List Va:=(range 18).map λj=> .int (fy j) (if j<k then cK body (kK j).toNat (ia j).toNat else 0)
def uU(body:Fr)(k:Nat):(tq body k).length=18:=by simp[tq]
def qL(body:Fr)(k j:Nat)(hj:j<18):(tq body k)[j]? =some (.int (fy j) (if j<k then cK body (kK j).toNat (ia j).toNat else 0)):=by rw[tq,Qt,Qam hj];rfl
def Kt(body:Fr)(k:Nat)(_hk:k<18):tq body (k+1)=(tq body k).set k (.int (fy k) (cK body (kK k).toNat (ia k).toNat)):=by
 apply Qal;intro j;by_cases hj:j<18
 .rw[qL body (k+1) j hj,Qbl];by_cases e:k=j
  .subst e;rw[Xo rfl,Xo (XL k),Xo (by rw[uU];exact hj)]
  .rw[Xd e,qL body k j hj];by_cases h:j<k
   .rw[Xo Mx,Xo h]
   .rw[Xd Mx,Xd h]
 .rw[QQ (by rw[uU];omega),QQ (by rw[Zy,uU];omega)]
def PG(body:Fr):tq body 18=aP (gI body):=rfl
def xO(hb:∀x∈body,aI x):bM (gI body):=by
 refine⟨rfl,rfl,?_,?_,λx hx=> ?_,λx hx=> ?_⟩
 .have:=cW hb 0 8;exact⟨this.1,by simpa[gI] using this.2⟩
 .have:=cW hb 8 4;exact⟨this.1,by simpa[gI] using this.2⟩
 .obtain⟨i,-,rfl⟩:=QU.1 hx;have:=cW hb (12+4*i) 4;exact⟨this.1,by simpa using this.2⟩
 .obtain⟨i,-,rfl⟩:=QU.1 hx;have:=cW hb (44+8*i) 8;exact⟨this.1,by simpa using this.2⟩
def xQ(hb:∀x∈body,aI x)(k j:Nat):kX j (if j<k then cK body (kK j).toNat (ia j).toNat else 0):=by
 unfold kX;by_cases h:j<k
 .rw[Xo h];have:=cW hb (kK j).toNat (ia j).toNat;exact⟨this.1,this.2⟩
 .rw[Xd h];refine⟨Qcp _,?_⟩;obtain e|e:=gP j<;>rw[e]<;>decide
def VL{p:Fr}{k:Int}(ho:dy p=some (k,body)):kA p=if k=6/\((body.drop 108).take 7).all (·<=0)=true/\cK body 115 8=cK body 0 8/\nm (gI body)=true then some (gI body) else none:=by rw[kA,ho]
def acp{w:Wo}{B:Nat}{A:GB}{c:Nat}{l:Fr}(h:Bs w B (am A l.length c) l)(i j:Nat)(wJ:i<=j)(hj:j<=l.length)(hic:i<l.length):
  ∃b o,A=some (an b o)/\Bs w B (el b (o+i) (j - i) (c - i)) ((l.drop i).take (j - i)):=by
 obtain⟨b,o,e,h1⟩:=Fh h.ns i j wJ hj hic;exact⟨b,o,e,h1,λx hx=>h.2 x (Q6 (Za hx))⟩
structure zr(w:Wo)(body:Fr)(v:Va)(n0 xb pb vb:Nat)(pre:List uq)(W:Wo):Prop where
 le:pre.length<=18
 sup:aq W xb 60 (tq body pre.length)
 vb:aq W vb 95 [v]
 bs:Bs W n0 v body
 box:aq W pb 191 [.pointer (some ⟨xb,0,none⟩)]
 res:aq W w 60 (aP aV)
 low:Below w w W
 n0:n0<=W
def zr.on{w:Wo}(h:zr w body v n0 xb pb vb pre W)(hb:ci W W'):zr w body v n0 xb pb vb pre W' :=
 ⟨h.le,h.sup.on hb,h.vb.on hb,⟨h.bs.1.below (hb.mono h.n0),h.bs.2⟩,h.box.on hb,h.res.on hb,Pd h.low hb,Qh h.n0 hb.size⟩
def zr.aL{S:FV}{w:Wo}(h:zr w body v n0 xb pb vb pre W)(hc:aG S W W')(hS:∀k,(k=xb\/k=vb\/k=pb\/k<n0)->¬S k)(hn:w<n0):zr w body v n0 xb pb vb pre W' :=
 ⟨h.le,h.sup.aL hc (hS xb (.inl rfl)),h.vb.aL hc (hS vb (.inr (.inl rfl))),⟨h.bs.1.below (hc.below h.n0 (λx hx=>hS x (.inr (.inr (.inr hx))))),h.bs.2⟩,h.box.aL hc (hS pb (.inr (.inr (.inl rfl)))),h.res.aL hc (hS _ (.inr (.inr (.inr hn)))),h.low.trans (hc.below h.low.size (λx hx=>hS x (.inr (.inr (.inr Mx))))),Qh h.n0 hc.size⟩
section
def wl_loadG{g:Option (Nat×Bool)}(p v:Va)(hw:Region.wanted ⟨dst,.load t x,ty,pos,after,g⟩ (yielded ops a.tmps)=true)(hx:a.eval x=p)(h:(Instr.loadAt t p).run P w= .ok v w)(hk:wpList P ops Q rest (a.put dst v) w):
  wpList P ops Q (⟨dst,.load t x,ty,pos,after,g⟩::rest) a w:=by
 unfold wpList;rw[Xo hw];left;exact zeC
end
def vi{w:Wo}{D:Nat}{C C0:Ox}(aU:ci w W)(hr:aq W w 60 C0)(hl:C.length=18)(h0:C0.length=18)(hD:w<D)(hK:W.heap[D]? =some (.deferred (some []))):
  (W.setCells w 0 C).heap[D]? =some (.deferred (some []))/\∀o,(loadVar 60 (ol w)).run prog ((W.setCells w 0 C).putObj D o)= .ok (.agg C.toArray) ((W.setCells w 0 C).putObj D o)/\ci w ((W.setCells w 0 C).putObj D o):=by
 have c3:=cN (S:=λx=>x=w.heap.size) rfl C 0 W (aG.refl _ W);have r3:=hr.fill (vs:=C) Mx;refine⟨(c3.block D (Qy.1 hK).1 Mx).trans hK,λo=>⟨?_,?_⟩⟩
 .exact eZ hl (λj v hj=>(r3.aL (fY (λx=>x=D) _ D o rfl) Mx).cell hj)
 .exact(aU.trans (c3.below aU.size (λx hx e=>Mx))).trans (fM _ D o Mx)
def Mb(w:Wo)(v:Va)(p:Fr)(h:Bs w w v p)(k:Int)(body:Fr)(ho:dy p=some (k,body)):
  Calls prog 117 #[v] w (OY w p):=by
 obtain⟨A,c,rfl,-,-⟩:=h.1.form;have⟨W0,aY⟩:=eX (w.alloc (.cells (aP aV).toArray 60));have R0:Af (aq W0 w 60 (aP aV)):=zcv;have B0:Af (ci w W0):=zay;have jr:Bs W0 W0 (am A p.length c) p:=⟨(h.1.below B0.o).more B0.o.size,h.2⟩;have HO:=aa (nH jr ho);obtain⟨fg,hkb,bO⟩:=jO ho h.2;have Hb:=iJ fg bO hkb;have hd:=aa (VL ho);have HW:=aa aY.symm;generalize p.length=m at*;clear h aY jr ho fg bO hkb;refine(Qdb (n:=3)).1 ?_;refine callsIn_of_wp_marks func117 rfl trivial ?_ rfl;simp only[ntmps117,QW,QF,Xq,Nat.reduceAdd,Nat.reduceSub,Xv,Xw,Xx,Xy,QZ,Qaj];refine Qhl.2 ?_;go_upto_region 1 with fail;change Code.wp _ _ _ _ (w.alloc (.cells (aP aV).toArray 60));rw[HW.o];go_upto_region 2 with(go_at_call 130;refine HO.o.mono ?_;rintro e W1 ⟨A1,c1,rfl,o1,s1,b1⟩;have S1:=aa s1;have B1:=aa b1;clear o1 s1 b1);obtain⟨b,o,hA1,hcut⟩:=acp (l:=body) (A:=A1) (c:=c1) (by rw[Hb.p1];exact S1.o) 108 115 Fd zbD zbD;subst hA1;obtain⟨A9,c9,Ea,hc9,hm9⟩:=S1.p1.form;injection Ea with e1 e2 e3;subst e3;clear e1 e2;have YH:115<=c1:=zaV;have⟨vb,oQ⟩:=eX W1.heap.size;have⟨W2,cE⟩:=eX (W1.alloc (.cells #[el b o 123 c1] 95));rw[<-cE,<-oQ];have b2:ci W1 W2:=zdq;have V2:Af (aq W2 vb 95 [el b o 123 c1]):=by show aq _ _ _ _;rw[cE,oQ];exact ar W1 [_] _
 have S2:Af (Bs W2 W2 (el b o 123 c1) body):=⟨(S1.p1.below b2).more b2.size,S1.q1⟩;have HM:=aa (Rv W2 W1 _ _ ⟨hcut.1.below b2,hcut.2⟩ (by rw[Qu,Zt,Hb.p1];decide) (by rw[Qu,Zt,Hb.p1];decide));rw[show 115 - 108=7 from rfl] at HM;obtain⟨Hmx,R2,B2⟩:=qC (Lo ((body.drop 108).take 7)) ((R0.o.on B1.o).on b2) (Pd B0.o (Pd B1.o b2));have bj:Af (w.heap.size<vb):=by show _<_;rw[oQ];exact Qn R0.o.lt B1.o.size
 have v0:=V2.o.j0;generalize Lib.maxOf ((body.drop 108).take 7)=mx at*;clear cE oQ b2 HW HO hcut S1;by_cases hk6:k=6
 .subst hk6;by_cases SF:0<mx
  .have JJ:Af (kA p=none):=(by show _=_;rw[hd.o,Xd];rintro⟨-,h1,-⟩;have h2:=Hmx.o;rw[h1,Xa SF] at h2;cases h2);go_upto_region 3 with(go_at_call 185;refine HM.o.mono ?_;rintro e W9 ⟨rfl,rfl⟩);clear v0;exact zdU
  .go_upto_region 4 with(go_at_call 185;refine HM.o.mono ?_;rintro e W9 ⟨rfl,rfl⟩);have⟨xb,eD⟩:=eX W2.heap.size;have⟨W3,cD⟩:=eX (W2.alloc (.cells (tq body 0).toArray 60));have mT:=aa cD.symm;have xD:=aa eD.symm;have b3:ci W2 W3:=zbr;have X3:Af (aq W3 xb 60 (tq body 0)):=(by show aq _ _ _ _;rw[cD,eD];exact ar W2 _ _);obtain⟨B3,V3,R3⟩:=qC (Pd B2.o b3) (V2.o.on b3) (R2.o.on b3);have S3:Af (Bs W3 xb (el b o 123 c1) body):=(by show Bs _ _ _ _;rw[eD];exact⟨S2.p1.below b3,S2.q1⟩);have Ke:Af (w.heap.size<vb/\vb<xb/\xb<W3.heap.size):=⟨bj.o,by rw[eD];exact V2.o.lt,X3.o.lt⟩;clear cD eD b3 v0 HM;go_upto_region 5 with fail;change Code.wp _ _ _ _ (W2.alloc (.cells (tq body 0).toArray 60));rw[mT.o,xD.o];go_upto_region 7 with(go_at_call 106;refine(vP W3 xb).mono ?_;rintro e W5 ⟨rfl,rfl⟩);obtain⟨W5,j6,P5,qd⟩:=nW W3 [li xb] 191;obtain⟨pb,xy⟩:∃y,y=W3.heap.size:=⟨_,rfl⟩;rw[<-j6,<-xy];rw[<-xy] at P5;have Iv:zr w body (el b o 123 c1) xb xb pb vb [] W5:=
    ⟨Fd,X3.o.on qd,V3.o.on qd,⟨S3.p1.below (qd.mono (QX Ke.q2)),S3.q1⟩,P5,R3.o.on qd,Pd B3.o qd,Qh (QX Ke.q2) qd.size⟩
   have ID:=aa Iv;have kS:Af (w.heap.size<vb/\vb<xb/\xb<pb/\pb<W5.heap.size):=⟨Ke.p1,Ke.p2,by rw[xy];exact Ke.q2,P5.lt⟩;have ZF:=λ(w:Wo) (a:Addr) (f:Fn) (xs ys:Zvv)=>run_store_func (P:=prog) (w:=w) (a:=a) (m:= .plain) f xs ys;simp only[stored] at ZF;clear qd P5 j6 xy Iv X3 V3 S3 R3 B3 mT xD Ke;refine(Qhl (n:=3)).1 ?_;refine xZ (α:=uq) (P:=prog) rfl Fd (gf:=174) (lb:= #[li pb]) rfl trivial (enters_of func174 KJ rfl) E6 (λ_=>rfl)
    (λk=>k=xb) (Yg xb pb) (λpre=>pre.length=18) (zr w body (el b o 123 c1) xb xb pb vb) ?h0 ?hIc ?hit ?hOb
    (λe W=>{tmps:= #[am A m c,undef,li w,ac 0,io 6,li vb,ac 0,li xb,ac (kK e.k),li W,undef,undef,undef,undef,.tuple #[io 6,el b o 123 c1,ac 0],am A m c,.tuple #[io 6,el b o 123 c1,ac 0],io 6,el b o 123 c1,ac 0,ac 0,.bool false,.bool false,io 6,.bool false,.bool false,.bool false,el b o 123 c1,el b (o+108) 7 (c1 - 108),io mx,.bool (decide (0<mx)),.bool (decide (0<mx)),undef,.func (.func 174) #[] #[li pb],ac (kK e.k),.agg #[ac (ia e.k),ip e.get,.func (.func e.f) #[] e.bx],undef,undef,undef,undef,undef,undef,undef,undef,undef,undef,undef,undef,undef,undef,undef,undef,undef,undef,undef,undef,undef,undef,undef,undef,undef,undef,undef,undef],defers:=[]})
    (λe W=>W.alloc (.cells #[ac (ia e.k),ip e.get,.func (.func e.f) #[] e.bx] 194)) (λe W=>aF _ _) ?assign ?body ?done
   case h0=>exact λW hW=>ID.o.on hW
   case hIc=>exact λpre A C' h hc=>h.aL hc (λk hk=>zbX) (by have:=kS.o;omega)
   case hOb=>exact λpre x A C' h hb=>h.on hb
   case hit=>
    intro l J W hW hJI hJc hY Iu;refine(Qdb (n:=2)).2 (yI W l xb pb (λk=>k=xb) J ⟨hJc,hY,λpre A hj=>(hJI _ _ hj).box,λpre A hj k hk=>⟨_,xQ Hb.p2 pre.length k,(hJI _ _ hj).sup.cell (qL body pre.length k hk)⟩,?_,?_⟩ Iu)
    .exact zfw
    .rintro k rfl;exact zfw
   case assign=>
    intro l e W K hK;unfold E6;gi_wp2;exact hK
   case body=>
    intro l pre x W0 ob Y8 ec hI hl AS Ec cz;obtain⟨xk,xg,xf,Tj⟩:=x;dsimp only at ec hI|-;have aJ:=(Qy.1 AS).1;have F0:=ar W0 [ac (ia xk),ip xg,.func (.func xf) #[] Tj] 194;have q:aG (λk=>k=l) (W0.alloc (.cells #[ac (ia xk),ip xg,.func (.func xf) #[] Tj] 194)) ((W0.alloc (.cells #[ac (ia xk),ip xg,.func (.func xf) #[] Tj] 194)).putObj l Y8):=fY _ _ _ _ rfl;have AY:=hI.aL q (λk hk=>zbX) (by have:=kS.o;omega);have hF6:=F0.aL q Mx;have Bp:sJ ((W0.alloc (.cells #[ac (ia xk),ip xg,.func (.func xf) #[] Tj] 194)).putObj l Y8) pb xk (.func (.func xf) #[] Tj):=ec.2.2.1.aL λb cs hB=>hB.aL q (by
     rintro rfl;have h1:(W0.alloc (.cells #[ac (ia xk),ip xg,.func (.func xf) #[] Tj] 194)).heap[b]? =some ob:=by rw[<-AS];exact(aF W0 _).block b aJ
     have h2:=h1.symm.trans hB;cases h2
     cases Ec)
    have EY:xk<18:=ec.2.1;have tg:xk=pre.length:=ec.1;obtain⟨W6,jc⟩:∃y,y=(W0.alloc (.cells #[ac (ia xk),ip xg,.func (.func xf) #[] Tj] 194)).putObj l Y8 :=⟨_,rfl⟩;rw[<-jc] at AY hF6 Bp|-;have ha:=ln xk Mx;have hz:=gP xk;have hn:=xQ Hb.p2 (xk+1) xk;rw[Xo (XL _)] at hn;have⟨y,hy⟩:=eX (cK body (kK xk).toNat (ia xk).toNat);have HG:=aa (lf W6 xb _ body AY.bs (kK xk).toNat (ia xk).toNat Mx zaV zbD);rw[Xp ha.1,Xp Mx,<-hy] at HG;rw[<-hy] at hn;have HS:=aa (Ve W6 pb xb xk xf Tj y _ Bp AY.box AY.sup hn (λj hj=>⟨_,qL body pre.length j hj⟩));have v0:=AY.vb.j0;obtain⟨e0,e1,e2⟩:=ra hF6;have HXI:=aa AY;have mZ:Af (∀W7,aq W7 xb 60 ((tq body pre.length).set xk (.int (fy xk) y))->aG (λk=>k=xb) W6 W7->zr w body (el b o 123 c1) xb xb pb vb (pre++[⟨xk,xg,xf,Tj⟩]) W7):=(by intro W7 h7 c7;have agr:=kS.o;have WC:=c7.below AY.n0 (λk hk e=>Mx);refine⟨by rw[Qo,ZA];omega,?_,AY.vb.aL c7 Mx,⟨AY.bs.1.below WC,AY.bs.2⟩,AY.box.aL c7 Mx,AY.res.aL c7 Mx,AY.low.trans (c7.below AY.low.size (λk hk e=>Mx)),Qh AY.n0 c7.size⟩;rw[Qo,ZA,<-tg,Kt body xk EY,<-hy];rw[<-tg] at h7;exact h7);have EM:Af (∀(j:Nat) (ob:Obj),some xb=some j->W6.heap[j]? =some ob->ob.isCells=true):=λj ob e h=>(by cases e;rw[AY.sup] at h;cases h;rfl);clear hn hy ha hz tg EY AY hF6 q F0 jc aJ ec hI hl AS Ec cz ID Hmx;generalize kK xk=A' at*;generalize ia xk=Z' at*;rcases Bp with⟨rfl,e⟩|⟨rfl,e⟩|⟨i,ib,hi,rfl,e,ub⟩|⟨i,ib,hi,rfl,e,ub⟩
    .cases e;have j2:=aa (show Calls _ _ #[ip y,li pb] _ _ from HS.o);clear HS
     gi_wp2_with (first
      |(refine⟨trivial,?_⟩;gi_at_call 186;refine(CallsIn.inRound l (Qdb.2 HG.o)).mono ?_;rintro e W7 ⟨rfl,rfl⟩)
      |(refine⟨trivial,?_⟩;gi_at_call 176;refine(CallsIn.inRound l (Qdb.2 j2.o)).mono ?_;rintro e W7 ⟨⟨v,rfl⟩,s7,c7⟩;have S7:=aa s7;have C7:=aa c7;clear s7 c7))
     exact zem
    .cases e;have j2:=aa (show Calls _ _ #[ip y,li pb] _ _ from HS.o);clear HS
     gi_wp2_with (first
      |(refine⟨trivial,?_⟩;gi_at_call 186;refine(CallsIn.inRound l (Qdb.2 HG.o)).mono ?_;rintro e W7 ⟨rfl,rfl⟩)
      |(refine⟨trivial,?_⟩;gi_at_call 177;refine(CallsIn.inRound l (Qdb.2 j2.o)).mono ?_;rintro e W7 ⟨⟨v,rfl⟩,s7,c7⟩;have S7:=aa s7;have C7:=aa c7;clear s7 c7))
     exact zem
    .cases e;clear hi ub;have j2:=aa (show Calls _ _ #[ip y,li pb,li ib] _ _ from HS.o);clear HS
     gi_wp2_with (first
      |(refine⟨trivial,?_⟩;gi_at_call 186;refine(CallsIn.inRound l (Qdb.2 HG.o)).mono ?_;rintro e W7 ⟨rfl,rfl⟩)
      |(refine⟨trivial,?_⟩;gi_at_call 178;refine(CallsIn.inRound l (Qdb.2 j2.o)).mono ?_;rintro e W7 ⟨⟨v,rfl⟩,s7,c7⟩;have S7:=aa s7;have C7:=aa c7;clear s7 c7))
     exact zem
    .cases e;clear hi ub;have j2:=aa (show Calls _ _ #[ip y,li pb,li ib] _ _ from HS.o);clear HS
     gi_wp2_with (first
      |(refine⟨trivial,?_⟩;gi_at_call 186;refine(CallsIn.inRound l (Qdb.2 HG.o)).mono ?_;rintro e W7 ⟨rfl,rfl⟩)
      |(refine⟨trivial,?_⟩;gi_at_call 179;refine(CallsIn.inRound l (Qdb.2 j2.o)).mono ?_;rintro e W7 ⟨⟨v,rfl⟩,s7,c7⟩;have S7:=aa s7;have C7:=aa c7;clear s7 c7))
     exact zem
   case done=>
    rintro D W pre hD dh hI hK;have agr:=kS.o;have NY:=hI.sup;rw[dh,PG] at NY;have ec:=xO Hb.p2;have v0:=hI.vb.j0;have x0:W.cell? xb=some (ip (cK body 0 8)):=NY.j0;have HG:Af (Calls prog 186 #[el b o 123 c1,ac 115,ac 8] W (iF (.tuple #[ip (cK body 115 8),.bool true]) λw' =>W=w')):=
     lf W xb _ body hI.bs 115 8 Fd zbD zbD
    obtain⟨HL,HR,zv,HX,qm,HD,HK,qe⟩:=ut (ef (w:=W) (b:=xb) (cs:=aP (gI body)) (bK ec) (λj v hj=>NY.cell hj)) (vB W (gI body) ec) hI.res NY hI.low hD hK ec;have Fe:Af (((body.drop 108).take 7).all (·<=0)=true):=by
     have h1:=Hmx.o;rw[Xe Mx] at h1;show _=_;cases hc:((body.drop 108).take 7).all (·<=0)
     .rw[hc] at h1;cases h1
     .rfl
    have⟨g9,hg9⟩:=eX (cK body 115 8);obtain⟨g0,AV⟩:∃g,g=cK body 0 8:=⟨_,rfl⟩;have Hg:=dK hg9 AV;rw[<-hg9] at HG;rw[<-AV] at x0;have⟨C,hC⟩:=eX (aP (gI body));have HC:=aa hC;rw[<-hC] at HL HR HX;clear hg9 AV hC ec NY agr hI hK hD dh ID Hmx;by_cases pj:g9=g0
    .subst pj;have⟨rb,ft⟩:=eX (nm (gI body));have wD:=aa ft;rw[<-ft] at HR;clear ft;cases rb with
     |false=>
      have JJ:Af (kA p=none):=by show _=_;rw[hd.o,Xd];rintro⟨-,-,-,h1⟩;rw[<-wD.o] at h1;cases h1
      go_upto_region 12 with(first
       |(go_at_call 186;refine HG.o.mono ?_;rintro e W7 ⟨rfl,rfl⟩)
       |((with_reducible refine wl_loadG _ _ ?_ ?_ HL.o ?_);(·rfl);(·rfl);go_frame)
       |(go_at_call 105;refine HR.o.mono ?_;rintro e W8 ⟨rfl,b8⟩;have B8:=aa b8;clear b8))
      have BI:=zv.o.on B8.o;have OO:=Pd qm.o B8.o;have Ng:=(B8.o.block D (Qy.1 HK.o).1).trans HK.o;have OV:=aa BI;clear v0 x0 HL HR HG;go_wp2_with(((refine wpList_store_mid rfl 60 _ _ rfl w 0 (aP aV).toArray ?_ ?_ (dX OV.o ?_) ?_ fJ ?_);(·rfl);(·rfl);(·exact go);(·exact ka);go_frame));obtain⟨k1,k2⟩:=vi (C:=aP aV) OO BI rfl rfl zbW Ng;exact zeN
     |true=>
      go_upto_region 13 with(first
       |(go_at_call 186;refine HG.o.mono ?_;rintro e W7 ⟨rfl,rfl⟩)
       |((with_reducible refine wl_loadG _ _ ?_ ?_ HL.o ?_);(·rfl);(·rfl);go_frame)
       |(go_at_call 105;refine HR.o.mono ?_;rintro e W8 ⟨rfl,b8⟩;have B8:=aa b8;clear b8))
      have BI:=zv.o.on B8.o;have OO:=Pd qm.o B8.o;have Ng:=(B8.o.block D (Qy.1 HK.o).1).trans HK.o;have OV:=aa BI;have X8:=HX.o.on B8.o;have HL8:=aa (ef (w:=W8) (b:=xb) (cs:=C) (by rw[HC.o];exact bK qe.o) (λj v hj=>X8.cell hj));have je:Af (C.length=18):=zbA;have su:Af (C.toArray.all (·.oneCell')=true):=WP;have wO:Af ((prog.info? 60).map (·.size)=some C.toArray.size):=zaq;have am2:Af (kA p=some (gI body)):=by show _=_;rw[hd.o,Xo];exact⟨trivial,Fe.o,by rw[<-Hg.p1,<-Hg.q1],wD.o.symm⟩
      clear v0 x0 HL HR HG;go_wp2_with(first
       |((with_reducible refine wl_load _ _ ?_ HL8.o ?_);(·rfl);go_frame)
       |((refine wpList_store_mid rfl 60 _ _ rfl w 0 C.toArray ?_ ?_ (dX OV.o ?_) wO.o su.o ?_);(·rfl);(·rfl);(·exact Xg je.o);go_frame))
      obtain⟨k1,k2⟩:=vi (C:=C) OO BI je.o rfl zbW Ng;exact⟨Sv,.inl ⟨_,_,rfl,run_takeDeferred k1,⟨_,cG rfl rfl (k2 _).1,(k2 _).2,.inr ⟨_,am2.o,qe.o,by rw[HC.o];rfl⟩⟩⟩⟩
    .have JJ:Af (kA p=none):=by show _=_;rw[hd.o,Xd];rintro⟨-,-,h1,-⟩;exact pj (by rw[Hg.p1,Hg.q1,h1])
     clear HR HL;go_upto_region 12 with(first
      |(go_at_call 186;refine HG.o.mono ?_;rintro e W7 ⟨rfl,rfl⟩)
      |fail)
     clear v0 x0;go_wp2_with(((refine wpList_store_mid rfl 60 _ _ rfl w 0 (aP aV).toArray ?_ ?_ (dX zv.o ?_) ?_ fJ ?_);(·rfl);(·rfl);(·exact go);(·exact ka);go_frame));obtain⟨k1,k2⟩:=vi (C:=aP aV) qm.o zv.o rfl rfl zbW HK.o;exact zeN
 .have JJ:Af (kA p=none):=by show _=_;rw[hd.o,Xd];rintro⟨h1,-⟩;exact hk6 h1
  clear HM;exact zdU
def CU(w:Wo)(v:Va)(p:Fr)(h:Bs w w v p):Calls prog 117 #[v] w (OY w p):=by
 cases ho:dy p with
 |none=>exact zfR w v p h ho
 |some q=>exact Mb w v p h q.1 q.2 ho
def Mm(g:Int)(hg:bI g):bits BinOp.and IntKind.u64 g 1=g%2:=by obtain⟨n,rfl⟩:∃n:Nat,g=n:=⟨g.toNat,by have:=hg.1;omega⟩;have h2:=hg.2;rw[show(1:Int)=((1:Nat):Int) from rfl,bits_and_u64_nat n 1 Mx Fd,Nat.and_one_is_mod];rfl
def uW(w:Wo)(g:Int)(hg:bI g):
  Calls prog 118 #[ip g] w (iF (ac (g%2)) λw' =>w=w') :=by
 have hb:=Mm g hg;have hw:wrap64 (g%2)=g%2:=vW;go_in;go_wp2;exact vl
variable{p:Fr}{gC:aN}{slot:Nat}
def jR{fn:Func}{p u u' :Tmp}{a:Addr}{tmps:Zvv}{x:Va}(h:fn.results= #[.cell p t,.tmp u,.tmp u'])(hp:tmps.getD p undef= .pointer (some a))(hl:(loadVar t a).run P w= .ok x w):
  (results fn tmps).run P w= .ok (.tuple #[x,tmps.getD u undef,tmps.getD u' undef]) w:=by
 exact zfp
def acE(w:Wo)(p0 p1:Fr)(e:Ending)(w' :Wo):Prop:=
 Below w w w'/\((qu p0 p1=none/\e= .returned (.tuple #[.agg (aP aV).toArray,.int .i64 0,.int .i64 60]))\/∃s,qu p0 p1=some s/\bM s/\e= .returned (.tuple #[.agg (aP s).toArray,.int .i64 (s.gen%2),.int .i64 0]))
def wg{ops:LC}{Q:Mp}{a:Act}{dst:Option Tmp}{x y:Operand}{ty:Fy}{pos:String}{after:Array Edge}{E:Prop}{K:Act->Wo->Prop}
  (b o:Nat) (cells:Zvv) (hx:a.eval x= ro b o) (hy:a.eval y= .agg cells) (ht:w.there b o cells.size) (hi:(P.info? t).map (·.size)=some cells.size) (h1:cells.all (·.oneCell')=true)
  (hk:K (a.put dst undef) (w.setCells b o cells.toList)):
  if Region.wanted ⟨dst,.store t x y,ty,pos,after,none⟩ (yielded ops a.tmps)=true then Oper.wp P ⟨dst,.store t x y,ty,pos,after,none⟩ a w K Q else E:=by
 simp only[Region.wanted,Qdx];exact wp_store_mid t x y rfl b o cells hx hy ht hi h1 hk
def iB(p0 p1:Fr):Nat->aN
 |0=>aV
 |1=>nh 0 p0 aV
 |_=>nh 1 p1 (nh 0 p0 aV)
structure Oi(w:Wo)(p0 p1:Fr)(v0 v1:Va)(rb tb:Nat)(k:Nat)(wr:Wo):Prop where
 le:k<=2
 ok:bM (iB p0 p1 k)
 gC:aq wr tb 60 (aP (iB p0 p1 k))
 res:aq wr rb 60 (aP aV)
 low:Below w w wr
 b0:Bs wr w v0 p0
 b1:Bs wr w v1 p1
def Oi.on{wr W:Wo}{p0 p1:Fr}{v0 v1:Va}{rb tb k:Nat}(h:Oi w p0 p1 v0 v1 rb tb k wr)(hb:ci wr W):Oi w p0 p1 v0 v1 rb tb k W:=
 ⟨h.le,h.ok,h.gC.on hb,h.res.on hb,Pd h.low hb,⟨h.b0.1.below (hb.mono h.low.size),h.b0.2⟩,⟨h.b1.1.below (hb.mono h.low.size),h.b1.2⟩⟩
def uQ(W:Wo)(C:Ox)(hl:C.length=18):(W.alloc (.cells (aP aV).toArray 60)).there W 0 C.toArray.size:=there_alloc W _ _ _ (by rw[QW,hl];exact Qg 18)
def Po(x y:Va)(w:Wo):(Instr.index 208 (.agg #[x,y]) (ac 0)).run prog w= .ok x w/\(Instr.index 208 (.agg #[x,y]) (ac 1)).run prog w= .ok y w:=⟨KJ,KJ⟩
def Jt(w:Wo)(v:Va)(p:Fr)(h:Bs w w v p)(hd:kA p=none):Calls prog 117 #[v] w (iF (.tuple #[.agg (aP aV).toArray,ac 60]) λw' =>ci w w') :=
 (CU w v p h).mono λe w' ⟨hb,h1⟩=>by
  rcases h1 with⟨-,h1⟩|⟨s,h2,-,-⟩
  .exact⟨h1,hb⟩
  .rw[hd] at h2;cases h2
def CT(w:Wo)(v:Va)(p:Fr)(h:Bs w w v p)(s:aN)(hd:kA p=some s):Calls prog 117 #[v] w (iF (.tuple #[.agg (aP s).toArray,ac 0]) λw' =>ci w w') :=
 (CU w v p h).mono λe w' ⟨hb,h1⟩=>by
  rcases h1 with⟨h2,-⟩|⟨s',h2,-,h3⟩
  .rw[hd] at h2;cases h2
  .rw[hd] at h2;cases h2;exact⟨h3,hb⟩
def zQ(hb:∀x∈p,aI x)(hd:kA p=some s):bM s:=by
 unfold kA at hd;cases ho:dy p with
 |none=>rw[ho] at hd;cases hd
 |some q=>
  obtain⟨k,body⟩:=q;rw[ho] at hd;dsimp only at hd;split at hd
  .cases hd;exact xO (jO ho hb).2.2
  .cases hd
def Db(h:kA p=none):nh slot p gC=gC:=by rw[nh,h]
def vY(h:kA p=some s):nh slot p gC=if s.gen%2=slot/\gC.gen<s.gen then s else gC:=by rw[nh,h]
def nI(W:Wo)(C:Ox)(t:Fy)(Z:Ox)(hl:C.length=Z.length):ci W ((W.alloc (.cells Z.toArray t)).setCells W 0 C)/\aq ((W.alloc (.cells Z.toArray t)).setCells W 0 C) W t C:=
 ⟨kF go _ _ _ (aF W _),(show aq _ W t Z from ar W Z t).fill hl⟩
def KV(w:Wo)(v0 v1:Va)(p0 p1:Fr)(h0:Bs w w v0 p0)(h1:Bs w w v1 p1):
  Calls prog 50 #[v0,v1] w (acE w p0 p1):=by
 obtain⟨A0,c0,rfl,-,-⟩:=h0.1.form;obtain⟨A1,c1,rfl,-,-⟩:=h1.1.form;obtain⟨W0,aY⟩:∃y,y=qr w (aP aV).toArray 60:=⟨_,rfl⟩;obtain⟨W1,aW⟩:∃y,y=qr W0 (aP aV).toArray 60:=⟨_,rfl⟩;obtain⟨tb,pS⟩:∃y,y=W0.heap.size:=⟨_,rfl⟩;have r0:aq W0 w 60 (aP aV):=by rw[aY];exact ar w _ _
 have b0:ci w W0:=zay;have b1:ci W0 W1:=zab;have t1:aq W1 tb 60 (aP aV):=by rw[aW,pS];exact ar W0 _ _
 have WL:=Pd b0 b1;have ST1:Af (Oi w p0 p1 (am A0 p0.length c0) (am A1 p1.length c1) w tb 0 W1):=
  ⟨Fd,Cb,t1,r0.on b1,WL,⟨h0.1.below WL,h0.2⟩,⟨h1.1.below WL,h1.2⟩⟩
 have fq:Af (w<tb):=by show _<_;rw[pS];exact r0.lt
 obtain⟨fD,gB,Htb⟩:=qC aY.symm aW.symm pS.symm;obtain⟨m0,xB⟩:∃m,m=p0.length:=⟨_,rfl⟩;obtain⟨m1,Az⟩:∃m,m=p1.length:=⟨_,rfl⟩;have Hm:Af (m0=p0.length/\m1=p1.length):=⟨xB,Az⟩;rw[<-xB,<-Az] at ST1|-;clear h0 h1 aY aW pS r0 b0 b1 t1 WL xB Az;go_in;go_upto_region 1 with fail;change Code.wp _ _ _ _ (qr w (aP aV).toArray 60);rw[fD.o];go_upto_region 2 with fail;change Code.wp _ _ _ _ (qr W0 (aP aV).toArray 60);rw[gB.o,Htb.o];clear fD gB Htb;go_wp2;go_loopw [15] (λi wr=>∃k:Nat,i= ac k/\Af (Oi w p0 p1 (am A0 m0 c0) (am A1 m1 c1) w tb k wr)) (λi _=>2 - (intOf i).toNat)
 .exact⟨0,rfl,ST1.o⟩
 .obtain⟨k,rfl,HS⟩:=hrel;rcases(show k=0\/k=1\/k=2 by have:=HS.o.le;omega) with hk|hk|hk
  .subst hk;rw[show((0:Nat):Int)=(0:Int) from rfl];have hix:=(Po (am A0 m0 c0) (am A1 m1 c1) wr).1;have iV:Bs wr wr (am A0 m0 c0) p0:=⟨HS.o.b0.1.more HS.o.low.size,HS.o.b0.2⟩;obtain⟨Z,hZ⟩:∃Z,Z=aP aV:=⟨_,rfl⟩;have HZl:Af (Z.length=18):=(by show _=_;rw[hZ];rfl);have HZ1:Af (Z.toArray.all (·.oneCell')=true):=(by show _=_;rw[hZ];exact fJ);have HZs:Af ((prog.info? 60).map (·.size)=some Z.toArray.size):=by show _=_;rw[QW,HZl.o];exact ka
   cases hdec:kA p0 with
   |none=>
    have HD:=aa (Jt wr _ _ iV hdec);rw[<-hZ] at HD;clear hZ;have Hn:Af (iB p0 p1 (0+1)=iB p0 p1 0):=Db hdec;clear hdec iV;go_upto_region 6 with(first
     |(go_at_call 117;refine Pe HD.o λW2 B2=> ?_)
     |((refine wpList_store_mid rfl 60 _ _ rfl W2 0 Z.toArray ?_ ?_ ?_ HZs.o HZ1.o ?_);(·rfl);(·rfl);(·exact uQ W2 Z HZl.o);go_frame))
    change Code.wp _ _ _ _ ((qr W2 (aP aV).toArray 60).setCells W2 0 Z);obtain⟨b3,x3⟩:=nI W2 Z 60 (aP aV) HZl.o;generalize (qr W2 (aP aV).toArray 60).setCells W2 0 Z=W3 at*;have dZ:=aa (HS.o.on (Pd B2.o b3));clear b3 x3 HD;go_wp2;go_roundw
    .exact zeI
    .decide
   |some s=>
    have HD:=aa (CT wr _ _ iV s hdec);have qe:=aa (zQ iV.2 hdec);have Hn:Af (iB p0 p1 (0+1)=if s.gen%2=(0:Nat)/\(iB p0 p1 0).gen<s.gen then s else iB p0 p1 0):=vY hdec;obtain⟨C,hC⟩:∃C,C=aP s:=⟨_,rfl⟩;have HC:=aa hC;have je:Af (C.length=18):=zbA;have su:Af (C.toArray.all (·.oneCell')=true):=WP;have wO:Af ((prog.info? 60).map (·.size)=some C.toArray.size):=zaq
    rw[<-hC] at HD;clear hdec iV hC;go_upto_region 6 with(first
     |(go_at_call 117;refine Pe HD.o λW2 B2=> ?_)
     |((refine wpList_store_mid rfl 60 _ _ rfl W2 0 C.toArray ?_ ?_ ?_ wO.o su.o ?_);(·rfl);(·rfl);(·exact uQ W2 C je.o);go_frame))
    change Code.wp _ _ _ _ ((qr W2 (aP aV).toArray 60).setCells W2 0 C);obtain⟨b3,x3⟩:=nI W2 C 60 (aP aV) je.o;obtain⟨xb,eD⟩:∃g,g=W2.heap.size:=⟨_,rfl⟩;rw[<-eD] at x3|-;have dZ:=aa (HS.o.on (Pd B2.o (by rw[eD] at*;exact b3:ci W2 ((qr W2 (aP aV).toArray 60).setCells xb 0 C))));clear b3;generalize (qr W2 (aP aV).toArray 60).setCells xb 0 C=W3 at*;have X3:=aa x3;have x0:W3.cell? xb=some (ip s.gen):=x3.cell (by rw[HC.o];rfl);have t0:W3.cell? tb=some (ip (iB p0 p1 0).gen):=dZ.o.gC.cell rfl;have pW:=aa (uW W3 s.gen qe.o.g);have HL:=aa (ef (w:=W3) (b:=xb) (cs:=C) je.o (λj v hj=>x3.cell hj));obtain⟨bg,Np⟩:∃g,g=(iB p0 p1 0).gen:=⟨_,rfl⟩;rw[<-Np] at t0 Hn;obtain⟨sg,Ay⟩:∃g,g=s.gen:=⟨_,rfl⟩;rw[<-Ay] at x0 Hn pW;obtain⟨sl,kr⟩:∃g,g=sg%2:=⟨_,rfl⟩;rw[<-kr] at Hn pW;clear x3 eD HD Np Ay kr;by_cases hs:sl=((0:Nat):Int)
    .by_cases hg:bg<sg
     .rw[Xo ⟨hs,hg⟩] at Hn;subst hs;go_wp2_with(first
       |(go_at_call 118;refine PP pW.o ?_)
       |((with_reducible refine wl_load _ _ ?_ HL.o ?_);(·rfl);go_frame)
       |((refine wpList_store_mid rfl 60 _ _ rfl tb 0 C.toArray ?_ ?_ (dX dZ.o.gC ?_) wO.o su.o ?_);(·rfl);(·rfl);(·exact Xg (by rw[QW,je.o,bK dZ.o.ok]));go_frame))
      go_roundw
      .have c4:=cN (S:=λx=>x=tb) rfl C 0 W3 (aG.refl _ W3);have aJ:=fq.o;have aU:=c4.below dZ.o.low.size (λx hx e=>Mx);refine⟨0+1,If,Fd,by rw[Hn.o];exact qe.o,?_,dZ.o.res.aL c4 Mx,dZ.o.low.trans aU,⟨dZ.o.b0.1.below aU,dZ.o.b0.2⟩,⟨dZ.o.b1.1.below aU,dZ.o.b1.2⟩⟩;exact zfS
      .decide
     .rw[Xd (λe=>hg e.2)] at Hn;subst hs;go_wp2_with(go_at_call 118;refine PP pW.o ?_);go_roundw
      .exact zeI
      .decide
    .rw[Xd (λe=>hs e.1)] at Hn;go_wp2_with(go_at_call 118;refine PP pW.o ?_);go_roundw
     .exact zeI
     .decide
  .subst hk;rw[show((1:Nat):Int)=(1:Int) from rfl];have hix:=(Po (am A0 m0 c0) (am A1 m1 c1) wr).2;have iV:Bs wr wr (am A1 m1 c1) p1:=⟨HS.o.b1.1.more HS.o.low.size,HS.o.b1.2⟩;obtain⟨Z,hZ⟩:∃Z,Z=aP aV:=⟨_,rfl⟩;have HZl:Af (Z.length=18):=(by show _=_;rw[hZ];rfl);have HZ1:Af (Z.toArray.all (·.oneCell')=true):=(by show _=_;rw[hZ];exact fJ);have HZs:Af ((prog.info? 60).map (·.size)=some Z.toArray.size):=by show _=_;rw[QW,HZl.o];exact ka
   cases hdec:kA p1 with
   |none=>
    have HD:=aa (Jt wr _ _ iV hdec);rw[<-hZ] at HD;clear hZ;have Hn:Af (iB p0 p1 (1+1)=iB p0 p1 1):=Db hdec;clear hdec iV;go_upto_region 6 with(first
     |(go_at_call 117;refine Pe HD.o λW2 B2=> ?_)
     |((refine wpList_store_mid rfl 60 _ _ rfl W2 0 Z.toArray ?_ ?_ ?_ HZs.o HZ1.o ?_);(·rfl);(·rfl);(·exact uQ W2 Z HZl.o);go_frame))
    change Code.wp _ _ _ _ ((qr W2 (aP aV).toArray 60).setCells W2 0 Z);obtain⟨b3,x3⟩:=nI W2 Z 60 (aP aV) HZl.o;generalize (qr W2 (aP aV).toArray 60).setCells W2 0 Z=W3 at*;have dZ:=aa (HS.o.on (Pd B2.o b3));clear b3 x3 HD;go_wp2;go_roundw
    .exact zeH
    .decide
   |some s=>
    have HD:=aa (CT wr _ _ iV s hdec);have qe:=aa (zQ iV.2 hdec);have Hn:Af (iB p0 p1 (1+1)=if s.gen%2=(1:Nat)/\(iB p0 p1 1).gen<s.gen then s else iB p0 p1 1):=vY hdec;obtain⟨C,hC⟩:∃C,C=aP s:=⟨_,rfl⟩;have HC:=aa hC;have je:Af (C.length=18):=zbA;have su:Af (C.toArray.all (·.oneCell')=true):=WP;have wO:Af ((prog.info? 60).map (·.size)=some C.toArray.size):=zaq
    rw[<-hC] at HD;clear hdec iV hC;go_upto_region 6 with(first
     |(go_at_call 117;refine Pe HD.o λW2 B2=> ?_)
     |((refine wpList_store_mid rfl 60 _ _ rfl W2 0 C.toArray ?_ ?_ ?_ wO.o su.o ?_);(·rfl);(·rfl);(·exact uQ W2 C je.o);go_frame))
    change Code.wp _ _ _ _ ((qr W2 (aP aV).toArray 60).setCells W2 0 C);obtain⟨b3,x3⟩:=nI W2 C 60 (aP aV) je.o;obtain⟨xb,eD⟩:∃g,g=W2.heap.size:=⟨_,rfl⟩;rw[<-eD] at x3|-;have dZ:=aa (HS.o.on (Pd B2.o (by rw[eD] at*;exact b3:ci W2 ((qr W2 (aP aV).toArray 60).setCells xb 0 C))));clear b3;generalize (qr W2 (aP aV).toArray 60).setCells xb 0 C=W3 at*;have X3:=aa x3;have x0:W3.cell? xb=some (ip s.gen):=x3.cell (by rw[HC.o];rfl);have t0:W3.cell? tb=some (ip (iB p0 p1 1).gen):=dZ.o.gC.cell rfl;have pW:=aa (uW W3 s.gen qe.o.g);have HL:=aa (ef (w:=W3) (b:=xb) (cs:=C) je.o (λj v hj=>x3.cell hj));obtain⟨bg,Np⟩:∃g,g=(iB p0 p1 1).gen:=⟨_,rfl⟩;rw[<-Np] at t0 Hn;obtain⟨sg,Ay⟩:∃g,g=s.gen:=⟨_,rfl⟩;rw[<-Ay] at x0 Hn pW;obtain⟨sl,kr⟩:∃g,g=sg%2:=⟨_,rfl⟩;rw[<-kr] at Hn pW;clear x3 eD HD Np Ay kr;by_cases hs:sl=((1:Nat):Int)
    .by_cases hg:bg<sg
     .rw[Xo ⟨hs,hg⟩] at Hn;subst hs;go_wp2_with(first
       |(go_at_call 118;refine PP pW.o ?_)
       |((with_reducible refine wl_load _ _ ?_ HL.o ?_);(·rfl);go_frame)
       |((refine wpList_store_mid rfl 60 _ _ rfl tb 0 C.toArray ?_ ?_ (dX dZ.o.gC ?_) wO.o su.o ?_);(·rfl);(·rfl);(·exact Xg (by rw[QW,je.o,bK dZ.o.ok]));go_frame))
      go_roundw
      .have c4:=cN (S:=λx=>x=tb) rfl C 0 W3 (aG.refl _ W3);have aJ:=fq.o;have aU:=c4.below dZ.o.low.size (λx hx e=>Mx);refine⟨1+1,If,Fd,by rw[Hn.o];exact qe.o,?_,dZ.o.res.aL c4 Mx,dZ.o.low.trans aU,⟨dZ.o.b0.1.below aU,dZ.o.b0.2⟩,⟨dZ.o.b1.1.below aU,dZ.o.b1.2⟩⟩;exact zfS
      .decide
     .rw[Xd (λe=>hg e.2)] at Hn;subst hs;go_wp2_with(go_at_call 118;refine PP pW.o ?_);go_roundw
      .exact zeH
      .decide
    .rw[Xd (λe=>hs e.1)] at Hn;go_wp2_with(go_at_call 118;refine PP pW.o ?_);go_roundw
     .exact zeH
     .decide
  .subst hk;rw[show((2:Nat):Int)=(2:Int) from rfl];obtain⟨s,hs⟩:∃s,s=iB p0 p1 2:=⟨_,rfl⟩;have Hs:Af (qu p0 p1=if s.gen=0 then none else some s):=(by show _=_;rw[hs];rfl);have qe:Af (bM s):=(by show bM _;rw[hs];exact HS.o.ok);have HB:Af (aq wr tb 60 (aP s)):=(by show aq _ _ _ _;rw[hs];exact HS.o.gC);have HR:=aa HS.o.res;have qm:=aa HS.o.low;have t0:wr.cell? tb=some (ip s.gen):=HB.o.cell rfl;clear hs;by_cases hg:s.gen=0
   .have jY:(s.gen==0)=true:=(by rw[hg];rfl);rw[Xo hg] at Hs;go_wp2_with(((refine wpList_store_mid rfl 60 _ _ rfl w 0 (aP aV).toArray ?_ ?_ (dX HR.o ?_) ?_ fJ ?_);(·rfl);(·rfl);(·exact go);(·exact ka);go_frame));have C3:=cN (S:=λx=>x=w.heap.size) rfl (aP aV) 0 wr (aG.refl _ wr);have R3:=HR.o.fill (vs:=aP aV) rfl;refine Qar (jR rfl rfl (eZ (cs:=aP aV) rfl (λj v hj=>R3.cell hj))) rfl ?_;exact⟨qm.o.trans (C3.below qm.o.size (λx hx e=>Mx)),.inl ⟨Hs.o,rfl⟩⟩
   .rw[Xd hg] at Hs;obtain⟨C,hC⟩:∃C,C=aP s:=⟨_,rfl⟩;have je:Af (C.length=18):=(by show _=_;rw[hC];exact bK qe.o);have su:Af (C.toArray.all (·.oneCell')=true):=(by show _=_;rw[hC];exact all_oneCell_toArray (jI _));have wO:Af ((prog.info? 60).map (·.size)=some C.toArray.size):=zaq;rw[<-hC] at HB;have jY:(s.gen==0)=false:=Xc hg;have pW:=aa (λW=>uW W s.gen qe.o.g);have HL:=aa (λ(W:Wo) (j:aq W tb 60 C)=>ef (w:=W) (b:=tb) (cs:=C) je.o (λj' v hj=>j.cell hj));obtain⟨sg,Ay⟩:∃g,g=s.gen:=⟨_,rfl⟩;rw[<-Ay] at t0 pW jY;have t1:wr.drew.cell? tb=some (ip sg):=t0;have HBd:Af (aq wr.drew tb 60 C):=HB;have xF:=aa (HL.o wr.drew HBd.o);clear hg;change Af _ at hC Ay;go_upto_region 11 with fail;have hS:aq wr.drew tb 60 C:=HBd.o;refine wp_region_held_drew (S:=λW=>aq W tb 60 C) KJ hS (λ_=> ?_);refine wpAnyH_take (i:=0) (v:= .agg C.toArray) rfl KJ KJ KJ (λ_ _ _ h=>h) (Or.inl ⟨zac,λW hW=>lq tb _ rfl (HL.o W hW)⟩) hS ?_;refine Ne ?_;refine wpAnyH_take (i:=1) (v:= li tb) rfl KJ KJ KJ (λ_ _ _ h=>h) (Or.inl ⟨zac,λW hW=>zM⟩) hS ?_;refine Ne ?_;refine wpAnyH_take (i:=2) (v:= ip sg) rfl KJ KJ KJ (λ_ _ _ h=>h) (Or.inl ⟨zac,λW hW=>by have hx:=aq.cell (j:=0) (u:= ip sg) hW (by rw[hC.o,Ay.o];rfl);go_simp⟩) hS ?_;refine Ne ?_;refine wpAnyH_ready (rs:=[3]) KJ Sv ?_;refine AllReadyH.cons rfl (λK hK=> ?_) AllReadyH.nil;go_simp;go_at_call 118;refine PP (pW.o _) ?_;go_simp;refine hK.out _ _ hS (λhS=> ?_);clear hK K;(try simp only[Act.put]);refine wpAnyH_ready (rs:=[4]) KJ Sv ?_;refine AllReadyH.cons rfl (λK hK=> ?_) AllReadyH.nil;refine wg w 0 C.toArray rfl rfl (dX (w:=wr.drew) HR.o (Xg (by rw[QW,je.o];rfl))) wO.o su.o ?_;have C3:=cN (S:=λx=>x=w.heap.size) rfl C 0 wr.drew (aG.refl _ wr.drew);have R3:aq (wr.drew.setCells w 0 C) w 60 C:=aq.fill (w:=wr.drew) HR.o (vs:=C) (by rw[je.o];rfl);have T3:aq (wr.drew.setCells w 0 C) tb 60 C:=HBd.o.aL C3 zaD;refine hK.out _ _ T3 (λhS=> ?_);clear hK K;refine Ne ?_;refine wpAnyH_take (i:=5) (v:= ac (sg%2)) rfl KJ KJ KJ (λ_ _ _ h=>h) (Or.inl ⟨zac,λW hW=>zM⟩) hS ?_;refine Ne ?_;refine wpAnyH_take (i:=6) (v:= ac 0) rfl KJ KJ KJ (λ_ _ _ h=>h) (Or.inl ⟨zac,λW hW=>zM⟩) hS ?_;refine Ne ?_;refine wpAnyH_done KJ ?_ _;go_wp2;refine Qar (jR rfl rfl (eZ (cs:=C) je.o (λj v hj=>R3.cell hj))) rfl ?_;refine⟨(below_drewN qm.o 1).trans (C3.below qm.o.size (λx hx e=>Mx)),.inr ⟨s,Hs.o,qe.o,?_⟩⟩;rw[<-Ay.o,<-hC.o];rfl
end
section
variable {S : Nat -> Prop}{fr : List (Option (List Int))}{k x : aN}{i j slot : Nat}{br : Bool}
def Ud:MK Int (Option (Nat×Nat)) where
 mt:=56
 kt:=3
 vt:=95
 xz:=underlying56
 keyed:=Qfq underlying3
 kv:= .int .i64
 kl:= .int .i64
 qY:=λx=>(Lit.int .i64 x).wf=true
 ir:=λx h=>Qeo underlying3 h
 Bn:=λx y h=>EQ
 sB:=λv l h=>by exact zei
 vv:=sw
 Ix:=nt
 R:=RS
 MZ:=ahP
 Bm:=acC
 zo:=acD
 zero:=none
 hz:=λw=>by kernel_rfl
structure bF where
 b:Nat
 d:Nat
 pl:Nat
 tb:Nat
 cb:Nat
 mb:Nat
 pb:Nat
 fb:Nat
def BS(I:bF):Nat->Prop:=λx=>x=I.b\/x=I.d\/x=I.pl\/x=I.tb\/x=I.cb\/x=I.mb\/x=I.pb\/x=I.fb
def ni(I:bF)(pv dv:Va)(x k:aN)(slot:Nat)(broken:Bool):List Va:=
 [.pointer (some ⟨I.d,0,none⟩),.pointer (some ⟨I.tb,0,none⟩),.pointer (some ⟨I.pb,0,none⟩),pv,dv,.map (some I.fb)]++aP x++aP k++[.int .i64 slot,.bool broken]
structure Yj(s:aX):Prop where
 bl:s.bl.length=s.t.len
 fr:s.fresh.length=s.t.len
 pg:(s.ag.length:Int)=aR s.t.len
 dg:(s.au.length:Int)=aR s.ag.length
 rg:∀x∈s.ag++s.au,0<=x/\x<s.t.len
 n2:2<=s.next
 nl:s.next<=s.t.len
 sup:bM s.eO
 kep:bM s.kept
 slot:s.slot<=1
 fd:∀data,some data∈s.fresh->data.length=128/\∀x∈data,aI x
def jf(l:List (Option (Nat×Nat))):List (Option (Option (Nat×Nat))):=l.map (·.map some)
def df(w:Wo)(I:bF)(ps:List (Option (Nat×Nat)))(fr:List (Option (List Int))):Prop:=
 ps.length=fr.length/\∀i,(ps.getD i none=none/\fr.getD i none=none)\/∃g c data,ps.getD i none=some (g,c)/\fr.getD i none=some data/\Bs w w (sw (some (g,c))) data/\¬BS I g/\data.length=128
structure dB(w:Wo)(I:bF)(s:aX)(pv dv:Va)(ps:List (Option (Nat×Nat))):Prop where
 own:aq w I.b 62 (ni I pv dv s.eO s.kept s.slot s.broken)
 ag:Ns w w .i64 pv s.ag
 ed:Ap (BS I) pv
 au:Ns w w .i64 dv s.au
 fT:Ap (BS I) dv
 jg:MG Ud w I.fb (du (jf ps)) (nS (jf ps))
 kz:df w I ps s.fresh
structure cR(w:Wo)(I:bF)(s:aX):Prop where
 cells:∃pv dv ps,dB w I s pv dv ps
 dM:cF w I.d I.pl s.bl
 fh:bf w I.tb I.cb I.mb s.t
 pick:aq w I.pb 131 (iX I.tb 2 s.next)
 mf:I.mb≠I.fb
 ok:Yj s
section
variable {w w' : Wo}{I : bF}{s : aX}
def df.aL{ps:List (Option (Nat×Nat))}(h:df w I ps fr)(hc:aG S w w')(hS:∀x,S x->BS I x):df w' I ps fr:=
 ⟨h.1,λi=>(h.2 i).imp id λ⟨g,c,data,h1,h2,h3,h4,h5⟩=>⟨g,c,data,h1,h2,⟨(h3.1.aL hc go (jD λe=>h4 (hS _ e))).more hc.size,h3.2⟩,h4,h5⟩⟩
def dB.aL{pv dv:Va}{ps:List (Option (Nat×Nat))}(h:dB w I s pv dv ps)(hc:aG S w w')(hS:∀x,S x->BS I x)(h1:¬S I.b)(h2:¬S I.fb):dB w' I s pv dv ps:=
 ⟨h.own.aL hc h1,Sl.more (Sl.aL h.ag hc go (h.ed.mono hS)) hc.size,h.ed,Sl.more (Sl.aL h.au hc go (h.fT.mono hS)) hc.size,h.fT,h.jg.aL hc h2,h.kz.aL hc hS⟩
def cR.on(h:cR w I s)(hb:ci w w'):cR w' I s:=by obtain⟨pv,dv,ps,hc⟩:=h.cells;exact⟨⟨pv,dv,ps,hc.aL (S:=λ_=>False) (aG.aZ hb) (λ_ e=>e.elim) id id⟩,h.dM.on hb,h.fh.on hb,h.pick.on hb,h.mf,h.ok⟩
def cR.lt(h:cR w I s):∀x,BS I x->x<w:=by
 obtain⟨pv,dv,ps,hc⟩:=h.cells;intro x hx;obtain e|e|e|e|e|e|e|e:=hx<;>subst e
 .exact hc.own.lt
 .exact h.dM.own.lt
 .exact h.dM.eP.lt
 .exact h.fh.own.lt
 .exact h.fh.counts.lt
 .exact h.fh.kept.lt
 .exact h.pick.lt
 .exact hc.jg.lt
def cR.n0(h:cR w I s):16<=s.t.len/\s.t.len<=4096:=by have h0:=h.dM.n0;have h1:=h.dM.n1;rw[h.ok.bl] at h0 h1;exact⟨h0,h1⟩
end
def baseC_len{I:bF}{pv dv:Va}(h:bM x)(hk:bM k):(ni I pv dv x k slot br).length=44:=by simp[ni,bK h,bK hk]
def Sn{I:bF}{pv dv:Va}(h:bM x)(hk:bM k):(ni I pv dv x k slot br)[43]? =some (.bool br):=by rw[ni,QM zcw];simp[bK h,bK hk]
def baseC_slot{I:bF}{pv dv:Va}(h:bM x)(hk:bM k):(ni I pv dv x k slot br)[42]? =some (ac slot):=by rw[ni,QM zcw];simp[bK h,bK hk]
def Mo{I:bF}{pv dv:Va}(h:bM x)(hj:j<18):(ni I pv dv x k slot br)[6+j]? =(aP x)[j]? :=by rw[ni,QN zcx,QN zcx,QM Sv];simp
def baseC_kep{I:bF}{pv dv:Va}(h:bM x)(hk:bM k)(hj:j<18):(ni I pv dv x k slot br)[24+j]? =(aP k)[j]? :=by rw[ni,QN (by simp[bK h,bK hk];omega),QM (by simp[bK h])];simp[bK h]
section
variable {w : Wo}{I : bF}{s : aX}{pv dv : Va}{ps : List (Option (Nat × Nat))}
def dB.x0(h:dB w I s pv dv ps):w.cell? I.b=some (li I.d):=h.own.cell rfl
def dB.x1(h:dB w I s pv dv ps):jp w I.b 1 (li I.tb):=h.own.cell rfl
def dB.x2(h:dB w I s pv dv ps):jp w I.b 2 (li I.pb):=h.own.cell rfl
def dB.x5(h:dB w I s pv dv ps):jp w I.b 5 (.map (some I.fb)):=h.own.cell rfl
end
section
variable {w : Wo}{I : bF}{s : aX}
def cR.x0(h:cR w I s):w.cell? I.b=some (li I.d):=by obtain⟨pv,dv,ps,hc⟩:=h.cells;exact hc.x0
def cR.x1(h:cR w I s):jp w I.b 1 (li I.tb):=by obtain⟨pv,dv,ps,hc⟩:=h.cells;exact hc.x1
def cR.x2(h:cR w I s):jp w I.b 2 (li I.pb):=by obtain⟨pv,dv,ps,hc⟩:=h.cells;exact hc.x2
def cR.x5(h:cR w I s):jp w I.b 5 (.map (some I.fb)):=by obtain⟨pv,dv,ps,hc⟩:=h.cells;exact hc.x5
def cR.JB(h:cR w I s):jp w I.b 43 (.bool s.broken):=by obtain⟨pv,dv,ps,hc⟩:=h.cells;exact hc.own.cell (Sn h.ok.sup h.ok.kep)
def cR.x42(h:cR w I s):jp w I.b 42 (ac s.slot):=by obtain⟨pv,dv,ps,hc⟩:=h.cells;exact hc.own.cell (baseC_slot h.ok.sup h.ok.kep)
def nC(h:bM x)(hi:i<8):(aP x)[2+i]? =some (gc (x.roots.getD i 0)):=by rw[aP,show 2+i=i+1+1 by omega,Qcz,Qcz,QN (by rw[Qq,h.r8];exact hi),Qt,Qe,Qf (h.r8▸hi)];rfl
def cR.root(h:cR w I s)(hi:i<8):jp w I.b (8+i) (gc (s.root i)):=by obtain⟨pv,dv,ps,hc⟩:=h.cells;refine hc.own.cell ?_;rw[show 8+i=6+(2+i) by omega,Mo h.ok.sup Mx,nC h.ok.sup hi];rfl
end
def fK(w:Wo)(b t:Nat)(h:jp w b 1 (li t)):
  Calls prog 17 #[li b] w (iF false λw' =>w=w') :=by
 go_in;go_wp2;exact vl
def dI(w:Wo)(I:bF)(s:aX)(h:cR w I s):
  Calls prog 20 #[li I.b] w (iF (ac s.t.len) λw' =>w=w') :=by
 have x1:=h.x1;have H:=aa (fK w I.b I.tb x1);have H2:=aa (cn w I.tb s.t.len _ _ h.fh.x0);clear h;go_in;go_wp2_with(first
  |(go_at_call 17;refine PP H.o ?_)
  |(go_at_call 63;refine PP H2.o ?_))
 exact vl
def nJ(w:Wo)(I:bF)(s:aX)(h:cR w I s):
  Calls prog 33 #[li I.b] w (iF (ac s.may) λw' =>w=w') :=by
 have H:=aa (fK w I.b I.tb h.x1);have JB:=h.JB;unfold aX.may;cases hb:s.broken with
 |true=>
  rw[hb] at JB;rw[Xo rfl];clear h hb;go_in;go_wp2_with(go_at_call 17;refine PP H.o ?_);exact vl
 |false=>
  rw[hb] at JB;rw[Xd Fd];clear h hb;go_in;go_wp2_with(go_at_call 17;refine PP H.o ?_);exact vl
def DT(w:Wo)(I:bF)(s:aX)(h:cR w I s):
  Calls prog 72 #[li I.b] w (iF (.bool s.broken) λw' =>w=w') :=by
 have H:=aa (fK w I.b I.tb h.x1);have JB:=h.JB;clear h;go_in;go_wp2_with(go_at_call 17;refine PP H.o ?_);exact vl
def aX.FL{s:aX}(h:bM s.eO)(i:Nat)(hi:i<8):0<=s.root i/\s.root i<4294967296:=by
 have:s.root i=s.eO.roots[i]'(h.r8▸hi):=by rw[aX.root,Qe,Qf (h.r8▸hi)];rfl
 rw[this];exact h.r _ (QI _)
def ot(w:Wo)(I:bF)(s:aX)(h:cR w I s)(i:Nat)(hi:i<8):
  Calls prog 55 #[li I.b,ac i] w (iF (ac (s.root i)) λw' =>w=w') :=by
 have H:=aa (fK w I.b I.tb h.x1);have xr:=h.root hi;have hr:=aX.FL h.ok.sup i hi;have h0:(0:Int)<=i:=Mx;have h1:(i:Int)<8:=Mx;have hw:IntKind.i64.wrap (s.root i)=s.root i:=ww;generalize s.root i=r at*;clear h hr;go_in;go_wp2_with(go_at_call 17;refine PP H.o ?_);exact vl
def Ai(w:Wo)(I:bF)(s:aX)(h:cR w I s)(b:Int):
  Calls prog 79 #[li I.b,ac b] w (iF (ac (if 0<=b then s.t.get b.toNat else 0)) λw' =>w=w') :=by
 have x1:=h.x1;have H:=aa (fK w I.b I.tb x1);have H2:=aa (qH w I.tb I.cb I.mb s.t h.fh b);generalize (if 0<=b then s.t.get b.toNat else 0)=r at*;clear h;go_in;go_wp2_with(first
  |(go_at_call 17;refine PP H.o ?_)
  |(go_at_call 121;refine PP H2.o ?_))
 exact vl
def Cs(ps:List (Option (Nat×Nat)))(b:Nat):(jf ps).getD b none=(ps.getD b none).map some:=by
 rw[jf,Qe,Qt,Qe];cases ps[b]? with
 |none=>rfl
 |some o=>rfl
def df.isS{w:Wo}{I:bF}{ps:List (Option (Nat×Nat))}(h:df w I ps fr)(b:Nat):(ps.getD b none).isSome=(fr.getD b none).isSome:=by rcases h.2 b with⟨h1,h2⟩|⟨g,c,data,h1,h2,-⟩<;>rw[h1,h2]<;>rfl
def vM(w:Wo)(I:bF)(s:aX)(h:cR w I s)(b:Nat)(hb:b<100000):
  Calls prog 78 #[li I.b,ac b] w (iF (.bool (s.ik b)) λw' =>w=w') :=by
 have x5:=h.x5;have H:=aa (fK w I.b I.tb h.x1);obtain⟨pv,dv,ps,hc⟩:=h.cells;have hl:=hc.jg.look (x:=(b:Int)) (mo Mx);rw[gN,Cs,Option.isSome_map,hc.kz.isS] at hl;unfold aX.ik;generalize (s.fresh.getD b none).isSome=r at*;generalize Ud.vv _=v at hl;clear h hc;go_in;have rf:(Instr.lookup 56 (.map (some I.fb)) (ac b) true).run prog w= .ok (.tuple #[v,.bool r]) w:=hl;clear hl;go_wp2_with(go_at_call 17;refine H.o.mono ?_;rintro e W2 ⟨rfl,rfl⟩);exact vl
def cR.FP{w:Wo}{I:bF}{s:aX}(h:cR w I s): -5000<=s.t.room 2/\s.t.room 2<=4096:=by have h1:=h.fh.ok.frees_le;have h2:=mD (λb=>s.t.free b) 2;unfold aE.room;omega
def Dx{n:Nat}(h0:16<=n)(h1:n<=4096):0<=kU n/\kU n<=100:=by
 unfold kU aR;split
 .omega
 .rw[Xd Mx];omega
def ou(w:Wo)(I:bF)(s:aX)(h:cR w I s):
  Calls prog 6 #[li I.b] w (iF (ac s.room) λw' =>w=w') :=by
 have x2:=h.x2;have H:=aa (fK w I.b I.tb h.x1);have HB:=aa (dI w I s h);have hn:=h.n0;have HP:=aa (xY w I.pb I.tb I.cb I.mb 2 s.next s.t h.pick h.fh Mx);have HN:=aa (Cy w s.t.len Mx hn.2);have e:s.room=max (s.t.room 2 - kU s.t.len) 0:=rfl;have r1:=h.FP;have r2:=Dx hn.1 hn.2;have hw:wrap64 (s.t.room 2 - kU s.t.len)=s.t.room 2 - kU s.t.len:=vW
 rw[e];generalize s.t.room 2=r at*;generalize kU s.t.len=k at*;clear h hn e r1 r2;go_in;go_wp2_with(first
  |(go_at_call 17;refine PP H.o ?_)
  |(go_at_call 18;refine PP HP.o ?_)
  |(go_at_call 20;refine PP HB.o ?_)
  |(go_at_call 19;refine PP HN.o ?_))
 exact vl
end
section
variable{B base:Nat}{v vx:Va}{ops:LC}{w:Wo}{Q:Mp}{a:Act}{rest:List Oper}{dst:Option Tmp}{os ox:Operand}{ty:Fy}{pos:String}{after:Array Edge}
def VD:(prog.info? 5).map (λi=>(i.zero,i.size,i.bytes))=some (some (io 0),1,1):=KJ
def acb:(prog.info? 29).map (λi=>(i.zero,i.size,i.bytes))=some (some (.agg #[ip 0,gc 0]),2,16):=KJ
def yJ(es:List aD):∀u∈es.flatMap dC,u.oneCell' =true:=by intro u hu;obtain⟨e,-,he⟩:=QT.1 hu;exact qQ _ _ u he
section
def wl_append_y{xs:Fr}(bN:kR w base v xs){ys:Fr}(hx:Bs w B vx ys)
  (hb:xs.length+ys.length<=1000000) (ey:base<=w) (hs:a.eval os=v) (AM:a.eval ox=vx)
  (hK:∀v' w',kR w' base v' (xs++ys)->w.grownBy w' v.ownBlock->wpList prog ops Q rest (a.put dst v') w'):
  wpList prog ops Q (⟨dst,.call {callee:= .builtin .append,args:= #[os,ox],argTypes:= #[95,95]},ty,pos,after,none⟩::rest) a w:=
 wl_append base 95 5 _ 1 1 underlying95 VD rfl Mx v xs.length _ bN vx ys.length _ hx.1 (dW .u8 ys) Do Mx ey hs AM
  (λv' w' h1 h2=>hK v' w' (by rw[kR,Qo,QL];exact h1) h2)
def wl_append_e{xs:List aD}(bN:cV w base v xs){ys:List aD}(hx:Es w B vx ys)
  (hb:xs.length+ys.length<=1000000) (ey:base<=w) (hs:a.eval os=v) (AM:a.eval ox=vx)
  (hK:∀v' w',cV w' base v' (xs++ys)->w.grownBy w' v.ownBlock->wpList prog ops Q rest (a.put dst v') w'):
  wpList prog ops Q (⟨dst,.call {callee:= .builtin .append,args:= #[os,ox],argTypes:= #[77,77]},ty,pos,after,none⟩::rest) a w:=
 wl_append base 77 29 _ 2 16 underlying77 acb rfl Mx v xs.length _ bN vx ys.length _ hx.1 (yJ ys) Do Mx ey hs AM
  (λv' w' h1 h2=>hK v' w' (by rw[cV,Qo,QP];exact h1) h2)
end
def pQ(w:Wo)(B:Nat)(v:Va)(xs:Fr)(hv:Bs w B v xs)(hB:B<=w)(hl:xs.length<=100000):
  Calls prog 125 #[v] w λe w' =>∃v',e= .returned v'/\kR w' w v' xs/\ci w w' :=by
 have q:=λ(w:Wo) (a:GB) (n c:Nat)=>Qgl (P:=prog) w 95 5 a n c 0 0 underlying95;obtain⟨⟨_,A,c,rfl,hc,hm,hz,lz⟩,bO⟩:=hv;have Hv:Af (Bs w B (am A xs.length c) xs):=⟨⟨Sv,A,c,rfl,hc,hm,hz,lz⟩,bO⟩;have Hl:=aa hl;clear hm hc hl lz bO;cases A with
 |none=>
  have:=hz rfl;subst this;have hx:xs=[]:=by obtain⟨⟨_,A,c,hv,hc,_⟩,_⟩:=Hv.o;cases hv;exact Zf Mx
  exact zfy
 |some ad=>
  clear hz;have zt:Af (kR (qr w #[] 5) w (el w 0 0 0) []):=World.ownsRow_made w #[] 0 go lm rfl;have uE:Af (Bs (qr w #[] 5) B (am (some ad) xs.length c) xs):=⟨Hv.p1.alloc hB _,Hv.q1⟩;clear hB;go_in;go_wp2_with((with_reducible refine wl_append_y (os:= .tmp 5) (ox:= .tmp 6) (base:=w.heap.size) (xs:=[]) zt.o uE.o ?_ ?_ ?_ ?_ ?_);(·have:=Hl.o;simp;omega);(·simp);(·rfl);(·rfl);intro v3 w3 sD qa;have H3:=aa sD;have G3:=aa qa;clear sD qa);go_ret;refine⟨_,rfl,by have:=H3.o;simpa[kR] using this,?_⟩;exact(pi.alloc go _).grown G3.o Sv zdo
def vU(w:Wo)(B:Nat)(v:Va)(es:List aD)(hv:Es w B v es)(hB:B<=w)(hl:es.length<=100000):
  Calls prog 89 #[v] w λe w' =>∃v',e= .returned v'/\cV w' w v' es/\ci w w' :=by
 have q:=λ(w:Wo) (a:GB) (n c:Nat)=>Qgl (P:=prog) w 77 29 a n c 0 0 underlying77;obtain⟨⟨hlen,A,c,rfl,hc,hm,hz,lz⟩,bO⟩:=hv;have Hv:Af (Es w B (am A es.length c) es):=⟨⟨hlen,A,c,rfl,hc,hm,hz,lz⟩,bO⟩;have Hl:=aa hl;clear hm hc hl lz bO hlen;cases A with
 |none=>
  have:=hz rfl;subst this;have hx:es=[]:=by obtain⟨⟨_,A,c,hv,hc,_⟩,_⟩:=Hv.o;cases hv;exact Zf Mx
  exact zfy
 |some ad=>
  clear hz;have zt:Af (cV (qr w #[] 29) w (el w 0 0 0) []):=World.ownsRow_made w #[] 0 go lm rfl;have uE:Af (Es (qr w #[] 29) B (am (some ad) es.length c) es):=⟨Hv.p1.alloc hB _,Hv.q1⟩;clear hB;go_in;go_wp2_with((with_reducible refine wl_append_e (os:= .tmp 5) (ox:= .tmp 6) (base:=w.heap.size) (xs:=[]) zt.o uE.o ?_ ?_ ?_ ?_ ?_);(·have:=Hl.o;simp;omega);(·simp);(·rfl);(·rfl);intro v3 w3 sD qa;have H3:=aa sD;have G3:=aa qa;clear sD qa);go_ret;refine⟨_,rfl,by have:=H3.o;simpa[cV] using this,?_⟩;exact(pi.alloc go _).grown G3.o Sv zdo
variable{w' :Wo}{I:bF}{s:aX}
section
def cR.Fp(h:cR w I s){S:FV}(hS:∀x,S x->x=I.pb\/TS I.tb I.cb I.mb x)(hc:aG S w w'):
  (∃pv dv ps,dB w' I s pv dv ps)/\cF w' I.d I.pl s.bl:=by
 obtain⟨pv,dv,ps,c⟩:=h.cells;have n1:∀x e cs,aq w x e cs->e≠131->e≠174->e≠30->¬S x:=by
  intro x e cs hx h1 h2 h3 hs;obtain rfl|rfl|rfl|rfl:=hS x hs
  .exact hx.ne h.pick h1 rfl
  .exact hx.ne h.fh.own h2 rfl
  .exact hx.ne h.fh.counts h3 rfl
  .exact hx.bS h.fh.kept rfl
 have n2:¬S I.fb:=by
  intro hs;obtain e|e|e|e:=hS _ hs
  .exact aq.bS h.pick c.jg e.symm
  .exact aq.bS h.fh.own c.jg e.symm
  .exact aq.bS h.fh.counts c.jg e.symm
  .exact h.mf e.symm
 have nb:=n1 _ _ _ c.own Fd Fd Fd;have nd:=n1 _ _ _ h.dM.own Fd Fd Fd;have np:=n1 _ _ _ h.dM.eP Fd Fd Fd;refine⟨⟨pv,dv,ps,c.aL hc (λx hx=> ?_) nb n2⟩,⟨h.dM.own.aL hc nd,h.dM.eP.aL hc np,h.dM.ne,h.dM.size,h.dM.byte,h.dM.n0,h.dM.n1⟩⟩;unfold BS;obtain e|e|e|e:=hS x hx<;>simp[e]
def OS:∀x,TS I.tb I.cb I.mb x->BS I x:=λx hx=>by unfold BS;obtain e|e|e:=hx<;>simp[e]
def IV:∀x,QS I.pb I.tb I.cb I.mb x->BS I x:=λx hx=>by unfold BS;obtain e|e|e|e:=hx<;>simp[e]
end
def df.get{w:Wo}{I:bF}{ps:List (Option (Nat×Nat))}{fr:List (Option (List Int))}(h:df w I ps fr){b:Nat}{data:Fr}(hb:fr.getD b none=some data):∃g c,ps.getD b none=some (g,c)/\Bs w w (sw (some (g,c))) data/\¬BS I g/\data.length=128:=by
 rcases h.2 b with⟨h1,h2⟩|⟨g,c,ar4,h1,h2,h3,h4,h5⟩
 .rw[hb] at h2;cases h2
 .rw[hb] at h2;cases h2;exact⟨g,c,h1,h3,h4,h5⟩
def KM(w:Wo)(I:bF)(s:aX)(h:cR w I s)(i:Nat)(hi:i<s.t.len):
  Calls prog 129 #[I.b,ac i] w λe w' =>∃v,e= .returned (.tuple #[v,ac 0])/\Bs w' w' v (s.read i)/\(∀b o n c,v= el b o n c->w.heap.size<=b)/\ci w w' :=by
 have x0:=h.x0;have x5:=h.x5;have H:=aa (fK w I.b I.tb h.x1);have HB:=aa (dI w I s h);have hn:=h.n0;have HF:=aa (vM w I s h i Mx);obtain⟨pv,dv,ps,hc⟩:=h.cells;have h0:(0:Int)<=i:=Mx;have h1:(i:Int)<s.t.len:=Mx
 cases hf:s.fresh.getD i none with
 |some data=>
  obtain⟨g,c,hp,hb,-,oR⟩:=hc.kz.get hf;have hl:=hc.jg.at (x:=(i:Int)) (mo Mx);rw[gN,Cs,hp] at hl;have rf:(Instr.lookup 56 (.map (some I.fb)) (ac i) false).run prog w= .ok (el g 0 128 c) w:=hl;have e1:s.ik i=true:=by unfold aX.ik;rw[hf];rfl
  have e2:s.read i=data:=by unfold aX.read;rw[hf];rfl
  rw[e1] at HF;have HC:=aa (pQ w w _ data hb go Mx);have Hd:Af (data.length=128/\∀x∈data,aI x):=⟨oR,hb.2⟩;have Hs:Af (s.read i=data):=e2;generalize s.t.len=n at*;clear h hc hf hp hb hl e1 e2 hn oR hi;go_in;go_wp2_with(first
   |(go_at_call 17;refine H.o.mono ?_;rintro e W2 ⟨rfl,rfl⟩)
   |(go_at_call 20;refine HB.o.mono ?_;rintro e W2 ⟨rfl,rfl⟩)
   |(go_at_call 78;refine HF.o.mono ?_;rintro e W2 ⟨rfl,rfl⟩)
   |(go_at_call 125;refine HC.o.mono ?_;rintro e W2 ⟨v,rfl,o2,b2⟩;have O2:=aa o2;have B2:=aa b2;clear o2 b2))
  go_ret2;refine⟨v,rfl,?_,?_,B2.o⟩
  .rw[Hs.o];exact⟨Sl.bU O2.o,Hd.q1⟩
  .intro b o n c e;subst e;exact(Xr O2.o b rfl).1
 |none=>
  have e1:s.ik i=false:=by unfold aX.ik;rw[hf];rfl
  have ub:i<s.bl.length:=by rw[h.ok.bl];exact hi
  have e2:s.read i=s.bl[i]:=by unfold aX.read;rw[hf,Qe,Qf ub];rfl
  rw[e1] at HF;have HR:=aa (oA w I.d I.pl s.bl h.dM i ub);have Hd:Af (s.bl[i].length=128/\∀x∈s.bl[i],aI x):=⟨h.dM.size _ (QI _),h.dM.byte _ (QI _)⟩;have Hs:=aa e2;generalize s.bl[i]=data at*;generalize s.t.len=n at*;clear h hc hf e1 e2 hn hi ub;go_in;go_wp2_with(first
   |(go_at_call 17;refine H.o.mono ?_;rintro e W2 ⟨rfl,rfl⟩)
   |(go_at_call 20;refine HB.o.mono ?_;rintro e W2 ⟨rfl,rfl⟩)
   |(go_at_call 78;refine HF.o.mono ?_;rintro e W2 ⟨rfl,rfl⟩)
   |(go_at_call 49;refine HR.o.mono ?_;rintro e W2 ⟨g,rfl,l2,o2,b2⟩;obtain⟨O2,B2,L2⟩:=qC o2 b2 l2;clear o2 b2 l2))
  go_ret2;refine⟨_,rfl,?_,?_,B2.o⟩
  .rw[Hs.o];have:=O2.o.bs (o:=0) (n:=128) (c:=128) (by rw[Hd.p1];exact go) go AN Hd.q1;rwa[Zl,Qj (by rw[Hd.p1];exact go)] at this
  .intro b o n c e;cases e;exact L2.o
variable{i:Nat}{b:Int}{x:aN}
def Yj.roots{s:aX}(h:Yj s)(hb:bX b):Yj {s with eO:={s.eO with roots:=s.eO.roots.set i b}}:=
 ⟨h.bl,h.fr,h.pg,h.dg,h.rg,h.n2,h.nl,⟨by rw[Zy];exact h.sup.r8,h.sup.m8,h.sup.g,h.sup.b,λx hx=>by
  obtain h1|rfl:=Zz hx
  .exact h.sup.r x h1
  .exact hb,h.sup.m⟩,h.kep,h.slot,h.fd⟩
def xR(h:bM x)(i:Nat)(b:Int)(hi:i<8):(aP x).set (2+i) (gc b)=aP {x with roots:=x.roots.set i b}:=by unfold aP;rw[show 2+i=i+1+1 by omega,Qc,Qc,Qcs _ _ (by rw[Qq,h.r8];exact hi)];simp only[Qem]
def vZ{I:bF}{pv dv:Va}{k:aN}{slot:Nat}{br:Bool}(h:bM x)(i:Nat)(b:Int)(hi:i<8):(ni I pv dv x k slot br).set (8+i) (gc b)=ni I pv dv {x with roots:=x.roots.set i b} k slot br:=by unfold ni;rw[Qcs _ _ zcx,Qcs _ _ zcx,ZB _ _ BY];rw[show 8+i - _=2+i by simp;omega,xR h i b hi]
section
def cR.uJ(h:cR w I s):I.b≠I.d/\I.b≠I.pl/\I.b≠I.tb/\I.b≠I.cb/\I.b≠I.mb/\I.b≠I.pb/\I.b≠I.fb:=by obtain⟨pv,dv,ps,c⟩:=h.cells;exact⟨c.own.ne h.dM.own Fd,c.own.ne h.dM.eP Fd,c.own.ne h.fh.own Fd,c.own.ne h.fh.counts Fd,c.own.bS h.fh.kept,c.own.ne h.pick Fd,c.own.bS c.jg⟩
def cR.J5(h:cR w I s):I.fb≠I.d/\I.fb≠I.pl/\I.fb≠I.tb/\I.fb≠I.cb/\I.fb≠I.mb/\I.fb≠I.pb/\I.fb≠I.b:=by obtain⟨pv,dv,ps,c⟩:=h.cells;exact⟨Xm (aq.bS h.dM.own c.jg),Xm (aq.bS h.dM.eP c.jg),Xm (aq.bS h.fh.own c.jg),Xm (aq.bS h.fh.counts c.jg),Xm h.mf,Xm (aq.bS h.pick c.jg),Xm (c.own.bS c.jg)⟩
end
def cR.cM{w:Wo}{I:bF}{s:aX}(h:cR w I s)(hi:i<8)(hb:bX b):
  cR (w.setCell (an I.b (8+i)) (gc b)) I {s with eO:={s.eO with roots:=s.eO.roots.set i b}}:=by
 obtain⟨n1,n2,n3,n4,n5,n6,n7⟩:=h.uJ;have hc:=kh w I.b (8+i) (gc b);obtain⟨pv,dv,ps,c⟩:=h.cells;have hS:∀x,x=I.b->BS I x:=λx e=> .inl e
 refine⟨⟨pv,dv,ps,?_,Sl.more (Sl.aL c.ag hc go (c.ed.mono hS)) hc.size,c.ed,Sl.more (Sl.aL c.au hc go (c.fT.mono hS)) hc.size,c.fT,c.jg.aL hc (Xm n7),c.kz.aL hc hS⟩,
  ⟨h.dM.own.aL hc (Xm n1),h.dM.eP.aL hc (Xm n2),h.dM.ne,h.dM.size,h.dM.byte,h.dM.n0,h.dM.n1⟩,h.fh.aL hc (Xm n3) (Xm n4) (Xm n5),h.pick.aL hc (Xm n6),h.mf,h.ok.roots hb⟩
 have:=c.own.set (8+i) (gc b);rw[vZ h.ok.sup i b hi] at this;exact this
def zU(w:Wo)(I:bF)(s:aX)(h:cR w I s)(e8:s.broken=false)(i:Nat)(h2:2<=i)(hi:i<8)(b:Int)(hb:b=0\/2<=b/\b<s.t.len):
  Calls prog 59 #[I.b,ac i,ac b] w (iF (ac 0) λw' =>cR w' I (s.cM i b).2/\aG (BS I) w w') :=by
 have HM:=aa (nJ w I s h);have em:s.may=0:=zdB;rw[em] at HM;have HB:=aa (dI w I s h);have hn:=h.n0;have TK:bX b:=by unfold bX;omega
 have es:(s.cM i b).2={s with eO:={s.eO with roots:=s.eO.roots.set i b}}:=zaX;have HS:=aa (h.cM hi TK);have Hes:=aa es;have x:=h.root hi;obtain⟨pv,dv,ps,c⟩:=h.cells;have xf:=c.own.free (8+i);have hw:IntKind.u32.wrap b=b:=zao;have i0:¬(i:Int)<2:=Mx;have i1:(i:Int)<8:=Mx;have i2:(0:Int)<=i:=Mx;generalize s.root i=r at*;generalize s.t.len=n at*;obtain rfl|⟨yZ,sq⟩:=hb
 .clear h c es em hn h2 hi TK hw;go_in;go_wp2_with(first
   |(go_at_call 33;refine PP HM.o ?_)
   |(go_at_call 20;refine PP HB.o ?_))
  exact zee
 .have b0:(b==0)=false:=Xc Mx;have b1:¬b<2:=by omega
  clear h c es em hn h2 hi TK;go_in;go_wp2_with(first
   |(go_at_call 33;refine PP HM.o ?_)
   |(go_at_call 20;refine PP HB.o ?_))
  exact zee
variable{own:GT}
structure BInv(s:aX)(hold:GT):Prop where
 ok:Yj s
 tok:s.t.Ok
 n16:16<=s.t.len
 live:s.broken=false
 need:kU s.t.len<=s.t.room 2
 nd:hold.Nodup
 own:∀b∈hold,2<=b/\b<s.t.len/\s.t.get b=1/\(b:Int)∉s.ag/\(b:Int)∉s.au/\s.ik b=decide (s.t.mE b=0)
 rest:∀b,b<s.t.len->s.t.get b≠0->b∈hold\/(b:Int)∈s.ag\/(b:Int)∈s.au
 held:∀b:Nat,(b:Int)∈s.ag\/(b:Int)∈s.au->s.t.get b≠0
 fr:∀b,s.ik b=true->s.t.get b≠0
def needV_nonneg{n:Nat}(h0:16<=n)(h1:n<=4096):0<=kU n:=by
 unfold kU aR;split
 .omega
 .rw[Xd Mx];omega
def BInv.room(h:BInv s own):s.room=s.t.room 2 - kU s.t.len:=by have:=h.need;unfold aX.room aX.len;omega
def getD_setD{α:Type}(l:List α)(b i:Nat)(y d:α)(hb:b<l.length):(l.set b y).getD i d=if i=b then y else l.getD i d:=by
 rw[Qe,Qbl,Qe];by_cases h:i=b
 .subst h;rw[Xo rfl,Xo hb,Xo rfl];rfl
 .rw[Xd (Xm h),Xd h]
structure PutOk(s:aX)(own:GT)(data:Fr)(b:Nat)(s' :aX):Prop where
 inv:BInv s' (b::own)
 new:b∉own
 get:s.t.get b=0
 room:s'.room=s.room - 1
 rd:s'.read b=data
 other:∀x,x≠b->s'.read x=s.read x/\s'.ik x=s.ik x/\s'.t.get x=s.t.get x
 here:s'.ik b=true/\s'.t.get b=1
 len:s'.t.len=s.t.len
 mE:∀x,s'.t.mE x=s.t.mE x
 same:s'.eO=s.eO/\s'.kept=s.kept/\s'.ag=s.ag/\s'.au=s.au/\s'.bl=s.bl/\s'.slot=s.slot
def put_ok(h:BInv s own)(data:Fr)(hl:data.length=128)(hb:∀x∈data,aI x)(hr:0<s.room):∃(b:Nat) (s' :aX),s.put data=((b:Int),0,s')/\PutOk s own data b s' :=by
 have BH:=h.room;have hn:=needV_nonneg h.n16 h.tok.n1;obtain⟨k,k1,k2,k3,k4,k5,k6⟩:=aE.take_ok h.tok (by have:=h.n16;omega) h.ok.n2 h.ok.nl Mx;have hg:s.t.get k=0:=by unfold aE.free at k4;simp at k4;exact k4.1.2
 have hw:s.t.mE k=0:=by unfold aE.free at k4;simp at k4;exact k4.2
 have cH:k∉own:=λhm=>by have:=(h.own k hm).2.2.1;omega
 have hkf:k<s.fresh.length:=h.ok.fr▸k2;have ta:¬((k:Int)∈s.ag\/(k:Int)∈s.au):=λhm=>h.held k hm hg;refine⟨k,{s with t:=s.t.set k 1,next:=if k+1=s.t.len then 2 else k+1,fresh:=s.fresh.set k (some data)},?_,?_⟩
 .unfold aX.put;rw[h.live,Xd Fd,Xd (by rw[hl];decide),Xd Mx,k5];rfl
 .have eo:∀x,({s with t:=s.t.set k 1,next:=if k+1=s.t.len then 2 else k+1,fresh:=s.fresh.set k (some data)}:aX).ik x=if x=k then true else s.ik x:=λx=>by
   show((s.fresh.set k (some data)).getD x none).isSome=_;rw[getD_setD _ _ _ _ _ hkf];by_cases hx:x=k
   .rw[Xo hx,Xo hx];rfl
   .rw[Xd hx,Xd hx];rfl
  have hgt:=aE.VH k2 1;have Ev:∀x,(s.t.set k 1).mE x=s.t.mE x:=λx=>aE.ajO h.tok k2 1 x;have hroom' :({s with t:=s.t.set k 1,next:=if k+1=s.t.len then 2 else k+1,fresh:=s.fresh.set k (some data)}:aX).room=s.room - 1:=by rw[BH];show max ((s.t.set k 1).room 2 - kU (s.t.set k 1).len) 0=_;rw[aE.tU,k6];omega
  refine⟨⟨⟨?_,?_,?_,?_,?_,?_,?_,h.ok.sup,h.ok.kep,h.ok.slot,?_⟩,h.tok.set k2 Fd Fd,?_,h.live,?_,Qez.2 ⟨cH,h.nd⟩,?_,?_,?_,?_⟩,cH,hg,hroom',?_,?_,⟨by rw[eo,Xo rfl],by show(s.t.set k 1).get k=1;rw[hgt,Xo rfl]⟩,aE.tU _ _,Ev,⟨rfl,rfl,rfl,rfl,rfl,rfl⟩⟩
  .show s.bl.length=(s.t.set k 1).len;rw[aE.tU];exact h.ok.bl
  .show(s.fresh.set k _).length=(s.t.set k 1).len;rw[aE.tU,Zy];exact h.ok.fr
  .show(s.ag.length:Int)=aR (s.t.set k 1).len;rw[aE.tU];exact h.ok.pg
  .exact h.ok.dg
  .intro x hx;show 0<=x/\x<((s.t.set k 1).len:Int);rw[aE.tU];exact h.ok.rg x hx
  .show 2<=(if k+1=s.t.len then 2 else k+1);split<;>omega
  .show(if k+1=s.t.len then 2 else k+1)<=(s.t.set k 1).len;have:=h.n16;rw[aE.tU];split<;>omega
  .intro d hd;obtain h1|h1:=Zz hd
   .exact h.ok.fd d h1
   .injection h1 with h1;subst h1;exact⟨hl,hb⟩
  .show 16<=(s.t.set k 1).len;rw[aE.tU];exact h.n16
  .show kU (s.t.set k 1).len<=(s.t.set k 1).room 2;rw[aE.tU,k6];omega
  .intro x hx;rw[eo];show 2<=x/\x<(s.t.set k 1).len/\(s.t.set k 1).get x=1/\(x:Int)∉s.ag/\(x:Int)∉s.au/\_=decide ((s.t.set k 1).mE x=0);rw[aE.tU,hgt,Ev];obtain rfl|hx:=QA.1 hx
   .rw[Xo rfl,Xo rfl,hw];exact⟨k3,k2,rfl,λhm=>ta (.inl hm),λhm=>ta (.inr hm),rfl⟩
   .have bT:x≠k:=λe=>cH (e▸hx);rw[Xd bT,Xd bT];exact h.own x hx
  .intro x hx hg';have hx:x<s.t.len:=(by rw[<-aE.tU (t:=s.t) k 1];exact hx);have hg' :=hg';rw[hgt] at hg';by_cases oP:x=k
   .exact .inl (oP▸Qm ..)
   .rw[Xd oP] at hg';exact(h.rest x hx hg').imp (Qs _) id
  .intro x hx;show(s.t.set k 1).get x≠0;rw[hgt];split
   .decide
   .exact h.held x hx
  .intro x hx;rw[eo] at hx;show(s.t.set k 1).get x≠0;rw[hgt];by_cases oP:x=k
   .rw[Xo oP];decide
   .rw[Xd oP] at hx|-;exact h.fr x hx
  .show((s.fresh.set k (some data)).getD k none).getD _=data;rw[getD_setD _ _ _ _ _ hkf,Xo rfl];rfl
  .intro x hx;refine⟨?_,by rw[eo,Xd hx],?_⟩
   .show((s.fresh.set k (some data)).getD x none).getD (s.bl.getD x [])=_;rw[getD_setD _ _ _ _ _ hkf,Xd hx];rfl
   .show(s.t.set k 1).get x=_;rw[hgt,Xd hx]
structure DownOk(s:aX)(own:GT)(b:Nat)(s' :aX):Prop where
 inv:BInv s' (own.erase b)
 room:s'.room=s.room+if s.ik b=true then 1 else 0
 other:∀x,x≠b->s'.read x=s.read x/\s'.ik x=s.ik x/\s'.t.get x=s.t.get x
 gone:s'.t.get b=0
 len:s'.t.len=s.t.len
 mE:∀x,s'.t.mE x=s.t.mE x
 same:s'.eO=s.eO/\s'.kept=s.kept/\s'.ag=s.ag/\s'.au=s.au/\s'.bl=s.bl/\s'.slot=s.slot
def down_inv(h:BInv s own){b:Nat}(hb:b∈own):DownOk s own b (s.count b false).2:=by
 obtain⟨b1,b2,b3,b4,b5,b6⟩:=h.own b hb;have hdown:s.t.down b=(0,s.t.set b 0):=by rw[aE.down,Xd Mx,Xd Mx,b3];rfl
 have hgt:=aE.VH b2 0;have Ev:∀x,(s.t.set b 0).mE x=s.t.mE x:=λx=>aE.ajO h.tok b2 0 x;have hcount:s.count b false=(0,{s with t:=s.t.set b 0,fresh:=s.fresh.set b none}):=by
  rw[aX.count,h.live,Xd Fd,Xd,Xd Mx]
  .simp only[Xn,Qgf,hdown];rw[hgt,Xo rfl,Xo rfl]
  .rintro(h1|h1|h1|h1)
   .omega
   .exact absurd b2 (XV.2 h1)
   .exact b4 zau
   .exact b5 zau
 rw[hcount];have hkf:b<s.fresh.length:=h.ok.fr▸b2;have eo:∀x,({s with t:=s.t.set b 0,fresh:=s.fresh.set b none}:aX).ik x=if x=b then false else s.ik x:=λx=>by
  show((s.fresh.set b none).getD x none).isSome=_;rw[getD_setD _ _ _ _ _ hkf];by_cases hx:x=b
  .rw[Xo hx,Xo hx];rfl
  .rw[Xd hx,Xd hx];rfl
 have hn16:=h.n16;have hneed:=h.need;have e1:s.t.freeHi b=false:=by unfold aE.freeHi aE.free;rw[b3];simp
 have e2:(s.t.set b 0).freeHi b=s.ik b:=by unfold aE.freeHi aE.free;rw[hgt,Xo rfl,Ev,aE.tU,b6];simp[b1,b2];rfl
 have ZJ:(s.t.set b 0).room 2=s.t.room 2+if s.ik b=true then 1 else 0:=by rw[aE.room_set h.tok Mx b2 Fd Fd,e1,e2];simp
 refine⟨⟨⟨?_,?_,?_,h.ok.dg,?_,h.ok.n2,?_,h.ok.sup,h.ok.kep,h.ok.slot,?_⟩,h.tok.set b2 Fd Fd,?_,h.live,?_,h.nd.erase b,?_,?_,?_,?_⟩,?_,?_,?_,aE.tU _ _,Ev,⟨rfl,rfl,rfl,rfl,rfl,rfl⟩⟩
 .show s.bl.length=(s.t.set b 0).len;rw[aE.tU];exact h.ok.bl
 .show(s.fresh.set b _).length=(s.t.set b 0).len;rw[aE.tU,Zy];exact h.ok.fr
 .show(s.ag.length:Int)=aR (s.t.set b 0).len;rw[aE.tU];exact h.ok.pg
 .intro x hx;show 0<=x/\x<((s.t.set b 0).len:Int);rw[aE.tU];exact h.ok.rg x hx
 .show s.next<=(s.t.set b 0).len;rw[aE.tU];exact h.ok.nl
 .intro d hd;obtain h1|h1:=Zz hd
  .exact h.ok.fd d h1
  .cases h1
 .show 16<=(s.t.set b 0).len;rw[aE.tU];exact hn16
 .show kU (s.t.set b 0).len<=(s.t.set b 0).room 2;rw[aE.tU,ZJ];split<;>omega
 .intro x hx;obtain⟨x1,x2⟩:=(Qiw h.nd).1 hx;rw[eo];show 2<=x/\x<(s.t.set b 0).len/\(s.t.set b 0).get x=1/\(x:Int)∉s.ag/\(x:Int)∉s.au/\_=decide ((s.t.set b 0).mE x=0);rw[aE.tU,hgt,Ev,Xd x1,Xd x1];exact h.own x x2
 .intro x hx hg';have hx:x<s.t.len:=by rw[<-aE.tU (t:=s.t) b 0];exact hx
  have hg' :=hg';rw[hgt] at hg';by_cases oP:x=b
  .rw[Xo oP] at hg';exact absurd rfl hg'
  .rw[Xd oP] at hg';exact(h.rest x hx hg').imp (λhm=>(Qiw h.nd).2 ⟨oP,hm⟩) id
 .intro x hx;show(s.t.set b 0).get x≠0;rw[hgt,Xd]
  .exact h.held x hx
  .rintro rfl;obtain hx|hx:=hx
   .exact b4 hx
   .exact b5 hx
 .intro x hx;rw[eo] at hx;show(s.t.set b 0).get x≠0;rw[hgt];by_cases oP:x=b
  .rw[Xo oP] at hx;cases hx
  .rw[Xd oP] at hx|-;exact h.fr x hx
 .rw[h.room];show max ((s.t.set b 0).room 2 - kU (s.t.set b 0).len) 0=_;rw[aE.tU,ZJ];split<;>omega
 .intro x hx;refine⟨?_,by rw[eo,Xd hx],?_⟩
  .show((s.fresh.set b none).getD x none).getD (s.bl.getD x [])=_;rw[getD_setD _ _ _ _ _ hkf,Xd hx];rfl
  .show(s.t.set b 0).get x=_;rw[hgt,Xd hx]
 .show(s.t.set b 0).get b=0;rw[hgt,Xo rfl]
def root_inv(h:BInv s own){i:Nat}(h2:2<=i)(hi:i<8){b:Int}(hb:b=0\/2<=b/\b<s.t.len):
  s.cM i b=(0,{s with eO:={s.eO with roots:=s.eO.roots.set i b}})/\BInv {s with eO:={s.eO with roots:=s.eO.roots.set i b}} own:=by
 have hn:=h.tok.n1;constructor
 .unfold aX.cM;rw[h.live,Xd Fd,Xd];unfold aX.len;rintro(h1|h1|h1)
  .omega
  .omega
  .rcases hb with rfl|hb
   .exact h1.1 rfl
   .omega
 .exact⟨h.ok.roots (by unfold bX;obtain rfl|hb:=hb<;>omega),h.tok,h.n16,h.live,h.need,h.nd,h.own,h.rest,h.held,h.fr⟩
def gr(x:aN)(au:Fr)(k:Nat):aN:={x with roots:=(range k).map (λi=>au.getD i 0)++x.roots.drop k}
def FN(x:aN)(au:Fr):gr x au 0=x:=by simp[gr]
def rootK_two(x:aN)(au:Fr):gr x au 2=qE x au:=rfl
def kZ(h:bM x)(au:Fr)(hd:∀d∈au,0<=d/\d<=65535)(k:Nat)(hk:k<=8):bM (gr x au k):=
 ⟨by simp[gr,h.r8];omega,h.m8,h.g,h.b,λy hy=>by
  obtain h1|h1:=Qz.1 hy
  .obtain⟨i,-,rfl⟩:=QU.1 h1
   rw[Qe]
   cases hg:au[i]? with
   |none=>exact⟨Fd,Fd⟩
   |some d=>have:=hd d (Qi hg);exact⟨this.1,by show d<_;omega⟩
  .exact h.r y (Q6 h1),h.m⟩
def FO(h:bM x)(au:Fr)(k:Nat)(hk:k<8):(gr x au k).roots.set k (au.getD k 0)=(gr x au (k+1)).roots:=by unfold gr;simp only;rw[Qbd,QL,QY,ZB _ _ Sv];rw[Qq,Qbk,XE,Zd (h.r8▸hk)];rfl
def aq.root{b:Nat}(h:aq w b 60 (aP x))(hx:bM x)(i:Nat)(hi:i<8)(y:Int):aq (w.setCell (an b (2+i)) (gc y)) b 60 (aP {x with roots:=x.roots.set i y}):=by have:=h.set (2+i) (gc y);rw[xR hx i y hi] at this;exact this
def rQ{P:ST}{fn:Func}{t:Fy}{p:Tmp}{a:Addr}{tmps:Zvv}{x:Va}(h:fn.results= #[.cell p t])(hp:tmps.getD p undef= .pointer (some a))(hl:(loadVar t a).run P w= .ok x w):
  (results fn tmps).run P w= .ok x w:=by
 exact zeM
structure Fc(w:Wo)(x:aN)(au:Fr)(v:Va)(b1 rb:Nat)(k:Nat)(wr:Wo):Prop where
 le:k<=2
 own:aq wr b1 60 (aP (gr x au k))
 res:aq wr rb 60 (aP aV)
 low:Below w w wr
 ds:Ns wr w .i64 v au
def Fc.step{wr W:Wo}{au:Fr}{v:Va}{b1 rb k:Nat}(h:Fc w x au v b1 rb k wr)(hx:bM x)(hd:∀d∈au,0<=d/\d<=65535)(hb:w<=b1)(bT:b1≠rb)(hk:k<2)
  (hW:W=(wr.setCell (an b1 (2+k)) (gc 0)).setCell (an b1 (2+k)) (gc (au.getD k 0))\/(W=wr.setCell (an b1 (2+k)) (gc 0)/\au.length<=k)):Fc w x au v b1 rb (k+1) W:=by
 have ok:=kZ hx au hd k Mx;have o1:=h.own.root ok k Mx 0;have hs:∀(W1:Wo) (u:Va),ci w W1->ci w (rc W1 b1 (2+k) u):=λW1 u hl=>hl.setCell (p:=an b1 (2+k)) hb u;have e1:=FO hx au k Mx;obtain rfl|⟨rfl,hl⟩:=hW
 .have To:bM {gr x au k with roots:=(gr x au k).roots.set k 0}:=⟨by rw[Zy];exact ok.r8,ok.m8,ok.g,ok.b,λy hy=>by
   obtain h1|rfl:=Zz hy
   .exact ok.r y h1
   .exact⟨Fd,Fd⟩,ok.m⟩
  have o2:=o1.root To k Mx (au.getD k 0);refine⟨hk,?_,(h.res.az (p:=an b1 (2+k)) (Xm bT) _).az (p:=an b1 (2+k)) (Xm bT) _,hs _ _ (hs _ _ h.low),?_⟩
  .have e2:gr x au (k+1)={gr x au k with roots:=((gr x au k).roots.set k 0).set k (au.getD k 0)}:=(by rw[Qel,e1];rfl);rw[e2];exact o2
  .exact Sl.setCell (Sl.setCell h.ds (p:=an b1 (2+k)) hb _) (p:=an b1 (2+k)) hb _
 .refine⟨hk,?_,h.res.az (p:=an b1 (2+k)) (Xm bT) _,hs _ _ h.low,Sl.setCell h.ds (p:=an b1 (2+k)) hb _⟩;have e0:au.getD k 0=0:=by rw[Qe,QQ hl];rfl
  have e2:gr x au (k+1)={gr x au k with roots:=(gr x au k).roots.set k 0}:=by rw[e0] at e1;rw[e1];rfl
  rw[e2];exact o1
def vA(w:Wo)(x:aN)(hx:bM x)(v:Va)(au:Fr)(hv:Ns w w .i64 v au)(hd:∀d∈au,0<=d/\d<=65535)(oR:au.length<=100):
  Calls prog 36 #[.agg (aP x).toArray,v] w (iF (.agg (aP (qE x au)).toArray) λw' =>ci w w') :=by
 obtain⟨A,c,rfl,-,-⟩:=hv.form;have⟨n,hn⟩:=eX au.length;rw[<-hn] at hv|-;have⟨C,hC⟩:=eX (aP x);have⟨W0,aY⟩:=eX (qr w C.toArray 60);have⟨W1,aW⟩:=eX (qr W0 (aP aV).toArray 60);have⟨rb,ft⟩:=eX W0.heap.size;have⟨b1,yZ⟩:=eX w.heap.size;have r0:aq W0 b1 60 (aP x):=by rw[aY,yZ,<-hC];exact ar w _ _
 have q0:ci w W0:=aY▸(aF _ _);have q1:ci W0 W1:=aW▸(aF _ _);have t1:aq W1 rb 60 (aP aV):=by rw[aW,ft];exact ar W0 _ _
 have q01:=Pd q0 q1;have ST1:Af (Fc w x au (am A n c) b1 rb 0 W1):=⟨Fd,by rw[FN];exact r0.on q1,t1,q01,Sl.below (by rw[hn] at hv|-;exact hv) q01⟩;have fq:=dK (Xg yZ.symm) (by have:=r0.lt;omega:b1≠rb);have anM:Af (w.heap.size<=rb):=by show _<=_;rw[ft];exact q0.size
 obtain⟨HX,fD,gB⟩:=qC hx aY.symm aW.symm;have wD:Af (w.heap.size+1=rb):=by show _=_;rw[ft,aY];simp
 have Hb1:=aa yZ.symm;rw[<-hC];have j5:(n:Int)<=100:=Mx;clear hv aY aW ft yZ r0 q0 q1 t1 q01 hC hx oR;change Af _ at hd hn;go_in;go_upto_region 1 with fail;change Code.wp _ _ _ _ (qr (qr w C.toArray 60) (aP aV).toArray 60);rw[fD.o,gB.o];clear fD gB;rw[wD.o,Hb1.o];clear wD;go_wp2;go_loopw [6] (λi wr=>∃k:Nat,i= ac k/\Af (Fc w x au (am A n c) b1 rb k wr)) (λi _=>2 - (intOf i).toNat)
 .exact⟨0,rfl,ST1.o⟩
 .obtain⟨k,rfl,HS⟩:=hrel;rcases(show k=0\/k=1\/k=2 by have:=HS.o.le;omega) with hk|hk|hk
  .subst hk;rw[show((0:Nat):Int)=(0:Int) from rfl];have y0:=HS.o.own.cell (nC (kZ HX.o au hd.o 0 Fd) (i:=0) Fd);have f0:=HS.o.own.free 2;generalize (gr x au 0).roots.getD 0 0=u0 at y0;by_cases aJ:0<n
   .have hi:(0:Int)<n:=(by omega);obtain⟨b,o,c',hv,-,-,hb,dL⟩:=HS.o.ds.cells zar;have gd:=dL 0 zar;have TI:0<=au.getD 0 0/\au.getD 0 0<=65535:=zbn;have bT:b≠b1:=(by have:=fq.p1;omega);have xx:jp (rc wr b1 2 (gc 0)) b o (ac (au.getD 0 0)):=(Qcq wr _ _ _ (λe=>bT (XF Addr.block e).symm)).trans gd;have y1:jp (rc wr b1 2 (gc 0)) b1 2 (gc 0):=(HS.o.own.set 2 _).cell (by rw[Qbc];rw[bK (kZ HX.o au hd.o 0 Fd)];decide);have f1:(rc wr b1 2 (gc 0)).frozen? (an b1 2)=false:=(HS.o.own.set 2 _).free 2;have hA:A=some (an b o):=(by cases hv;rfl);have bj:=aa aJ;have HE:Af (∀u,u=au.getD 0 0->Fc w x au (am A n c) b1 rb (0+1) (rc (rc wr b1 2 (gc 0)) b1 2 (gc u))):=λu hu=>zaO;subst hA;have HE2:=aa (HE.o _ rfl);generalize au.getD 0 0=dk at gd xx HE2 TI;have hw:IntKind.u32.wrap dk=dk:=ww;clear dL hv aJ TI HE;go_wp2;go_roundw
    .exact⟨0+1,If,HE2.o⟩
    .decide
   .have hi:¬(0:Int)<n:=(by omega);have HE:=aa (HS.o.step HX.o hd.o fq.p1 fq.q1 Fd (.inr ⟨rfl,zar⟩));clear aJ;go_wp2;go_roundw
    .exact⟨0+1,If,HE.o⟩
    .decide
  .subst hk;rw[show((1:Nat):Int)=(1:Int) from rfl];have y0:=HS.o.own.cell (nC (kZ HX.o au hd.o 1 Fd) (i:=1) Fd);have f0:=HS.o.own.free 3;generalize (gr x au 1).roots.getD 1 0=u0 at y0;by_cases aJ:1<n
   .have hi:(1:Int)<n:=(by omega);obtain⟨b,o,c',hv,-,-,hb,dL⟩:=HS.o.ds.cells zar;have gd:=dL 1 zar;have TI:0<=au.getD 1 0/\au.getD 1 0<=65535:=zbn;have bT:b≠b1:=(by have:=fq.p1;omega);have xx:jp (rc wr b1 3 (gc 0)) b (o+1) (ac (au.getD 1 0)):=(Qcq wr _ _ _ (λe=>bT (XF Addr.block e).symm)).trans gd;have y1:jp (rc wr b1 3 (gc 0)) b1 3 (gc 0):=(HS.o.own.set 3 _).cell (by rw[Qbc];rw[bK (kZ HX.o au hd.o 1 Fd)];decide);have f1:(rc wr b1 3 (gc 0)).frozen? (an b1 3)=false:=(HS.o.own.set 3 _).free 3;have hA:A=some (an b o):=(by cases hv;rfl);have bj:=aa aJ;have HE:Af (∀u,u=au.getD 1 0->Fc w x au (am A n c) b1 rb (1+1) (rc (rc wr b1 3 (gc 0)) b1 3 (gc u))):=λu hu=>zaO;subst hA;have HE2:=aa (HE.o _ rfl);generalize au.getD 1 0=dk at gd xx HE2 TI;have hw:IntKind.u32.wrap dk=dk:=ww;clear dL hv aJ TI HE;go_wp2;go_roundw
    .exact⟨1+1,If,HE2.o⟩
    .decide
   .have hi:¬(1:Int)<n:=(by omega);have HE:=aa (HS.o.step HX.o hd.o fq.p1 fq.q1 Fd (.inr ⟨rfl,zar⟩));clear aJ;go_wp2;go_roundw
    .exact⟨1+1,If,HE.o⟩
    .decide
  .subst hk;rw[show((2:Nat):Int)=(2:Int) from rfl];have⟨C2,hC2⟩:=eX (aP (qE x au));have To:=kZ HX.o au hd.o 2 Fd;have HO:Af (aq wr b1 60 C2):=(by show aq _ _ _ _;rw[hC2];exact HS.o.own);have Oq:Af (C2.length=18):=(by show _=_;rw[hC2];exact bK To);have su:Af (C2.toArray.all (·.oneCell')=true):=(by show _=_;rw[hC2];exact all_oneCell_toArray (jI _));have wO:Af ((prog.info? 60).map (·.size)=some C2.toArray.size):=by show _=_;rw[QW,Oq.o];exact ka
   obtain⟨HL,HR,HC2⟩:=qC (ef (w:=wr) (b:=b1) (cs:=C2) Oq.o (λj v hj=>HO.o.cell hj)) HS.o.res hC2;clear hC2 To;go_wp2_with(first
    |((with_reducible refine wl_load _ _ ?_ HL.o ?_);(·rfl);go_frame)
    |((refine wpList_store_mid rfl 60 _ _ rfl rb 0 C2.toArray ?_ ?_ (dX HR.o ?_) wO.o su.o ?_);(·rfl);(·rfl);(·exact Xg (by rw[QW,Oq.o];rfl));go_frame))
   have C3:=cN (S:=λx=>x=rb) rfl C2 0 wr (aG.refl _ wr);have R3:=HR.o.fill (vs:=C2) (by rw[Oq.o];rfl);refine Qar (rQ rfl rfl (eZ (cs:=C2) Oq.o (λj v hj=>R3.cell hj))) rfl ?_;exact⟨by rw[HC2.o],HS.o.low.trans (C3.below HS.o.low.size (λx hx e=>by have:=anM.o;omega))⟩
variable{s:ri}{T S:FV}{m l:List (Va × ri)}{d:Nat}
def cy{P:ST}(w:Wo)(base:Nat)(t ty e:Fy)(z:Va)(size bytes:Nat)(ht:P.underlying t=some (.slice e))(hi:(P.info? e).map (λi=>(i.zero,i.size,i.bytes))=some (some z,size,bytes))
  (Tq:z.cells.size=size) (cz:0<size) (v:Va) (n:Nat) (xs:Ox) (bN:w.ownsRow base e size v n xs) (vx:Va) (m:Nat) (news:Ox) (hx:Sl w B size vx m news)
  (h1:∀u∈news,u.oneCell' =true) (TP:n+m<=maxLen) (lF:(n+m)*bytes<=140737488355328) (ey:base<=w):
  ∃v' w',(Builtin.append_ #[t,t] ty #[v,vx]).run P w= .ok v' w'/\w'.ownsRow base e size v' (n+m) (xs++news)/\w.grownBy w' v.ownBlock/\(v'.ownBlock=v.ownBlock\/v'.ownBlock=some w):=by
 cases hq:P.info? e with
 |none=>simp[hq] at hi
 |some i=>
  simp[hq] at hi;obtain⟨hz,BF,hby⟩:=hi;obtain⟨hl,A,c,rfl,hc,hm,N4,hr⟩:=hx
  cases A with
  |none=>
   have xB:m=0:=by
    obtain h|h:=XG m
    .exact h
    .obtain⟨b,o,h,_⟩:=hr h
     cases h
   have pV:=N4 rfl;subst xB;subst pV;have uL:=Zf zaC;subst uL;have:=run_append_owned_none (P:=P) (w:=w) base t ty e i size ht hq v n xs bN;exact⟨v,w,this,by simpa using bN,⟨rfl,rfl,rfl,Qg _,λ_ _ _=>rfl⟩,.inl rfl⟩
  |some ad=>
   obtain⟨v',w',h2,h3,h4,_,h5⟩:=run_append_own_at (P:=P) (w:=w) base t ty e i z size bytes ht hq hz BF hby Tq cz v n xs bN ad m c news hl (λj u hu=>by
    have xB:0<m:=by
     obtain h|h:=XG m
     .subst h
      have uL:=Zf zaC;subst uL;simp at hu
     .exact h
    obtain⟨b,o,h,dL⟩:=hr xB
    cases h
    rw[dP];exact dL.2 j u hu) h1 TP lF ey
   exact⟨v',w',h2,h3,h4,h5⟩
def cB(w:Wo)(S:FV)(d:Nat)(v:Va):ri->Prop
 | .wr i data=>∃b1 b2 b3 dv,v= .func (.func 103) #[] #[.pointer (some ⟨b1,0,none⟩),.pointer (some ⟨b2,0,none⟩),.pointer (some ⟨b3,0,none⟩)]/\aq w b1 44 [.pointer (some ⟨d,0,none⟩)]/\aq w b2 3 [.int .i64 i]/\aq w b3 95 [dv]/\Bs w w dv data/\Ap S dv/\¬S b1/\¬S b2/\¬S b3
 | .fl=>v= .func (.func 42) #[.pointer (some ⟨d,0,none⟩)] #[]
def cB.is{w:Wo}{S:FV}{d pl:Nat}{v:Va}(h:cB w S d v s)(hS:∀x,DS d pl x->S x):lI w d pl v s:=by
 cases s with
 |fl=>exact h
 |wr i data=>
  obtain⟨b1,b2,b3,dv,e,h1,h2,h3,h4,h5,n1,n2,n3⟩:=h;exact⟨b1,b2,b3,dv,e,h1,h2,h3,h4,h5.mono hS,λx=>n1 (hS _ x),λx=>n2 (hS _ x),λx=>n3 (hS _ x)⟩
def cB.aL{w w' :Wo}{S:FV}{d:Nat}{v:Va}(h:cB w S d v s)(hc:aG T w w')(hT:∀x,T x->S x):cB w' S d v s:=by
 cases s with
 |fl=>exact h
 |wr i data=>
  obtain⟨b1,b2,b3,dv,e,h1,h2,h3,h4,h5,n1,n2,n3⟩:=h;exact⟨b1,b2,b3,dv,e,h1.aL hc (λx=>n1 (hT _ x)),h2.aL hc (λx=>n2 (hT _ x)),h3.aL hc (λx=>n3 (hT _ x)),⟨(h4.1.aL hc go (h5.mono hT)).more hc.size,h4.2⟩,h5,n1,n2,n3⟩
def cB.on{w w' :Wo}{S:FV}{d:Nat}{v:Va}(h:cB w S d v s)(hb:ci w w'):cB w' S d v s:=h.aL (T:=λ_=>False) (aG.aZ hb) (λ_ e=>e.elim)
def cB.set{w:Wo}{S:FV}{d:Nat}{v:Va}(h:cB w S d v s)(hT:∀x,x<w.heap.size->T x->S x):cB w T d v s:=by
 cases s with
 |fl=>exact h
 |wr i data=>
  obtain⟨b1,b2,b3,dv,e,h1,h2,h3,h4,h5,n1,n2,n3⟩:=h;refine⟨b1,b2,b3,dv,e,h1,h2,h3,h4,λb o n c hn he ht=> ?_,λx=>n1 (hT _ h1.lt x),λx=>n2 (hT _ h2.lt x),λx=>n3 (hT _ h3.lt x)⟩;obtain⟨A',c',hv,-,-⟩:=h4.1.form;have ZY:=he;rw[hv] at ZY;cases ZY;obtain⟨b',o',c'',mQ,-,-,hr⟩:=h4.1.row hn;rw[hv] at mQ;cases mQ;exact h5 b o _ c hn he (hT b hr.1 ht)
def cB.one{w:Wo}{S:FV}{d:Nat}{v:Va}(h:cB w S d v s):v.oneCell' =true:=by
 cases s with
 |fl=>have e:=h;rw[e];rfl
 |wr i data=>
  obtain⟨b1,b2,b3,dv,e,-⟩:=h;rw[e];rfl
def nF(w:Wo)(S:FV)(d:Nat)(i:Nat)(dv:Va)(data:Fr)(hd:Bs w w dv data)(ha:Ap S dv)(hS:∀x,S x->x<w.heap.size):
  Calls prog 39 #[li d,ac i,dv] w λe w' =>∃v,e= .returned (.agg #[v])/\cB w' S d v (.wr i data)/\ci w w' :=by
 obtain⟨A,c,rfl,jb,pk⟩:=hd.1.form;have⟨W3,cD⟩:=eX (((w.alloc (.cells #[li d] 44)).alloc (.cells #[ac i] 3)).alloc (.cells #[am A data.length c] 95));obtain⟨W1,aW,X1,q1⟩:=nW w [li d] 44;have s1:W1.heap.size=w.heap.size+1:=zdP;rw[<-aW] at cD;obtain⟨W2,cE,X2,q2⟩:=nW W1 [ac i] 3;have s2:W2.heap.size=w.heap.size+1+1:=by rw[cE];simp[s1]
 rw[<-cE] at cD;have q3:=aF W2 (.cells #[am A data.length c] 95);have X3:=ar W2 [am A data.length c] 95;rw[<-cD] at q3 X3;rw[s1] at X2;rw[s2] at X3;have s3:Af (W3.heap.size=w.heap.size+1+1+1):=by show _=_;rw[cD];simp[s2]
 have B3:=aa ((Pd q1 q2).trans (q3.mono (Qh q1.size q2.size)));have HS:Af (cB W3 S d (.func (.func 103) #[] #[li w,li (w.heap.size+1),li (w.heap.size+1+1)]) (.wr i data)):=
  ⟨_,_,_,_,rfl,(X1.on q2).on q3,X2.on q3,X3,⟨((hd.1.below B3.o).more B3.o.size),hd.2⟩,ha,λe=>zdt,λe=>zdt,λe=>zdt⟩
 have mT:Af (((w.alloc (.cells #[li d] 44)).alloc (.cells #[ac i] 3)).alloc (.cells #[am A data.length c] 95)=W3):=by show _=_;rw[cD,cE,aW]
 clear s1 s2 q1 q2 q3 X1 X2 X3 aW cE cD hd ha hS jb pk;go_in;go_upto_region 1 with fail;rw[mT.o,<-s3.o];obtain⟨W4,j7,R4,sm⟩:=nW W3 [.nilFunc] 97;rw[<-j7];have R:=aa R4;have Uo:=aa sm;have y0:=R.o.j0;have y1:=R.o.free 0;have ZF:=λ(w:Wo) (a:Addr) (ys:Zvv)=>run_store_func (P:=prog) (w:=w) (a:=a) (m:= .plain) (.func 103) #[] ys;simp only[stored] at ZF;clear R4 sm j7;go_wp2_with fail;have R5:=R.o.set 0 (.func (.func 103) #[] #[li w,li (w.heap.size+1),li (w.heap.size+1+1)]);refine Qar (lj rfl rfl (Lr R5)) rfl ?_;have qd:=Uo.o.setCell (p:=ol W3) go (.func (.func 103) #[] #[li w,li (w.heap.size+1),li (w.heap.size+1+1)]);exact⟨_,rfl,HS.o.on qd,Pd B3.o qd⟩
def Iz(S:FV)(row:Option Nat):Nat->Prop:=λx=>S x\/row=some x
def eB(w:Wo)(base:Nat)(S:FV)(d:Nat)(v:Va)(l:List (Va×ri)):Prop:=
 w.ownsRow base 97 1 v l.length (l.map Prod.fst)/\(∀p∈l,cB w (Iz S v.ownBlock) d p.1 p.2)
def ab8:(prog.info? 97).map (λi=>(i.zero,i.size,i.bytes))=some (some (.agg #[.nilFunc]),1,8):=KJ
def Kw{w:Wo}{S:FV}{d:Nat}{l:List (Va×ri)}(h:∀p∈l,cB w S d p.1 p.2):∀u∈l.map Prod.fst,u.oneCell' =true:=by intro u hu;obtain⟨p,hp,rfl⟩:=QU.1 hu;exact(h p hp).one
section
def eB.on(h:eB w base S d v l)(hb:ci w w'):eB w' base S d v l:=⟨aS h.1 hb,λp hp=>(h.2 p hp).on hb⟩
def Lb(w:Wo)(base:Nat)(S:FV)(d:Nat):eB w base S d () []:=⟨Qbn _ _ _ _,λp hp=>zdh⟩
def eB.form(h:eB w base S d v l):∃A n c,v= am A n c:=by rcases h.1.2 with⟨rfl,_⟩|⟨g,cap,cur,rfl,_⟩<;>exact⟨_,_,_,rfl⟩
def eB.bu(h:eB w base S d v l):∃A c,v= am A l.length c:=by
 rcases h.1.2 with⟨rfl,h2⟩|⟨g,cap,cur,rfl,_⟩
 .exact⟨none,0,by rw[h2]⟩
 .exact⟨_,_,rfl⟩
def eB.more(h:eB w base S d v l){v' :Va}(hm:∀p∈m,cB w (Iz S v.ownBlock) d p.1 p.2)
  (ho:w'.ownsRow base 97 1 v' (l.length+m.length) (l.map Prod.fst++m.map Prod.fst)) (hg:w.grownBy w' v.ownBlock) (hv:v'.ownBlock=v.ownBlock\/v'.ownBlock=some w.heap.size):eB w' base S d v' (l++m):=by
 refine⟨by rw[Qo,QL];exact ho,λp hp=> ?_⟩;have Tx:cB w (Iz S v.ownBlock) d p.1 p.2:=by
  obtain h1|h1:=Qz.1 hp
  .exact h.2 p h1
  .exact hm p h1
 have Wn:cB w (λx=>Iz S v.ownBlock x\/v'.ownBlock=some x) d p.1 p.2:=Tx.set λx hx hT=>by
  obtain h1|h1:=hT
  .exact h1
  .rcases hv with h2|h2
   .exact .inr (h2▸h1)
   .rw[h2] at h1;have:=Qr h1;omega
 have hp4:=Wn.aL (T:=λx=>v.ownBlock=some x) (aG.dH hg (λx _ e=>e)) (λx e=> .inl (.inr e));exact hp4.set λx _ hT=>by
  obtain h1|h1:=hT
  .exact .inl (.inl h1)
  .exact .inr h1
end
section
def wl_app_st{base d:Nat}{S:FV}{v:Va}{l:List (Va×ri)}(bN:eB w base S d v l){vx:Va}(hx:Sl w B 1 vx m.length (m.map Prod.fst))(hm:∀p∈m,cB w (Iz S v.ownBlock) d p.1 p.2)
  (hb:l.length+m.length<=1000000) (ey:base<=w) (hs:a.eval os=v) (AM:a.eval ox=vx)
  (hK:∀v' w',eB w' base S d v' (l++m)->w.grownBy w' v.ownBlock->wpList prog ops Q rest (a.put dst v') w'):
  wpList prog ops Q (⟨dst,.call {callee:= .builtin .append,args:= #[os,ox],argTypes:= #[90,90]},ty,pos,after,none⟩::rest) a w:=by
 refine Qbi rfl λK hKK=> ?_;obtain⟨v',w',hr,h2,h3,h4⟩:=cy (P:=prog) w base 90 ty 97 _ 1 8 underlying90 ab8 rfl Fd v l.length _ bN.1 vx m.length _ hx (Kw hm) Do Mx ey;unfold Oper.wp execOp;simp only[resolve,invoke,builtin,Qaz,Qcc,XH,Qep,Zs,Qfh,hs,AM,hr];exact hKK _ _ (hK v' w' (bN.more hm h2 h3 h4) h3)
end
def qq(t:aE)(ag:Fr)(i:Nat):ri:= .wr (ag.getD i 0).toNat (encI 5 (eI t i))
def sy(ag au:Fr)(i:Nat):ri:= .wr (au.getD i 0).toNat (encI 4 (bG ag i))
def tR(t:aE)(ag au:Fr)(a b:GT):List ri:=a.map (qq t ag)++b.map (sy ag au)
def DN(t:aE)(i:Nat):(eI t i).length<=61:=by unfold eI;simp;omega
def yk(l:Fr)(i:Nat):(bG l i).length<=61:=by unfold bG;simp;omega
def lY{k:Int}{l:Fr}(hk:aI k)(hl:l.length<=61):(encI k l).length=128/\∀x∈encI k l,aI x:=
 ⟨oq _ _ (by rw[yR];omega),lP hk (sY l hl)⟩
def dn.whole{g:Nat}{bs:Fr}(h:dn w g bs)(hl:bs.length=128)(hb:∀x∈bs,aI x):Bs w w (el g 0 128 128) bs:=by have:=h.bs (o:=0) (n:=128) (c:=128) zbc go AN hb;rwa[Zl,Qj zbc] at this
def eB.OC(h:eB w base S d v l)(hd:∀x,S x->x<w):∀x,Iz S v.ownBlock x->x<w:=λx hx=>by
 obtain h1|h1:=hx
 .exact hd x h1
 .exact(Xr h.1 x h1).2
def Jy{W3 W4:Wo}{fv:Va}{s:ri}(ho:eB W3 base S d v l)(hs:cB W4 (Iz S v.ownBlock) d fv s)(hb:ci W3 W4):
  eB (W4.alloc (.cells #[fv] 97)) base S d v l/\Sl (W4.alloc (.cells #[fv] 97)) (W4.heap.size+1) 1 (el W4 0 1 1) [(fv,s)].length ([(fv,s)].map Prod.fst)/\(∀p∈[(fv,s)],cB (W4.alloc (.cells #[fv] 97)) (Iz S v.ownBlock) d p.1 p.2):=by
 have sq:=aF W4 (.cells #[fv] 97);refine⟨(ho.on hb).on sq,Fg W4 [fv] _ 1 rfl,λp hp=> ?_⟩;rw[Qx.1 hp];exact hs.on sq
structure abt(w:Wo)(S:FV)(d xb:Nat)(pv dv:Va)(L:List ri)(v:Va)(wr:Wo):Prop where
 own:∃l,eB wr w S d v l/\l.map Prod.snd=L
 box:aq wr xb 55 [pv,dv]
 low:Below w w wr
def KZ(w:Wo)(S:FV)(d tb cb mb:Nat)(t:aE)(ht:bf w tb cb mb t)(hd:∀x,S x->x<w)(pv dv av bv:Va)(ag au:Fr)(a b:GT)
  (hp:Ns w w .i64 pv ag) (hdi:Ns w w .i64 dv au) (ha:Ns w w .i64 av (a.map λi:Nat=>(i:Int))) (hb:Ns w w .i64 bv (b.map λi:Nat=>(i:Int)))
  (dh:ag.length<=100) (oR:au.length<=100) (EC:a.length<=100) (fg:b.length<=100) (hr:∀x∈ag++au,0<=x/\x<=65535)
  (hai:∀i∈a,i<ag.length/\61*i<=t.len) (hbi:∀i∈b,i<au.length/\61*i<ag.length):
  Calls prog 41 #[d,tb,.agg #[pv,dv],av,bv] w λe w' =>∃v l,e= .returned v/\eB w' w S d v l/\l.map Prod.snd=tR t ag au a b/\ci w w' :=by
 obtain⟨Ap,cp,rfl,-,-⟩:=hp.form;obtain⟨Ad,cd,rfl,-,-⟩:=hdi.form;obtain⟨Aa,ca,rfl,-,-⟩:=ha.form;obtain⟨Ab,cbb,rfl,-,-⟩:=hb.form;rw[Qq] at ha hb|-;rw[Qq];have⟨na,Ez⟩:=eX a.length;have⟨nb,gZ⟩:=eX b.length;have⟨np,ei⟩:=eX ag.length;have⟨nd,im⟩:=eX au.length;obtain⟨W1,aW,X1,B1⟩:=nW w [am Ap np cp,am Ad nd cd] 55;have ST1:Af (abt w S d w (am Ap np cp) (am Ad nd cd) [] () W1):=⟨⟨[],Lb _ _ _ _,rfl⟩,X1,B1⟩;have gB:=aa aW.symm;have HP:=aa (show Ns w w .i64 (am Ap np cp) ag by rw[ei];exact hp);have HDi:=aa (show Ns w w .i64 (am Ad nd cd) au by rw[im];exact hdi);have HA:=aa (show Ns w w .i64 (am Aa na ca) (a.map λi:Nat=>(i:Int)) by rw[Ez];exact ha);have HB:=aa (show Ns w w .i64 (am Ab nb cbb) (b.map λi:Nat=>(i:Int)) by rw[gZ];exact hb);have Hn:=hI8 Ez gZ ei im (by omega:na<=100) (by omega:nb<=100) (by omega:np<=100) (by omega:nd<=100);have n1:(na:Int)<=100:=Mx;have n2:(nb:Int)<=100:=Mx;rw[<-Ez,<-gZ,<-ei,<-im];clear aW X1 B1 hp hdi ha hb Ez gZ ei im dh oR EC fg;change Af _ at ht hr hai hbi hd;go_in;go_upto_region 1 with fail;rw[gB.o];clear gB;go_wp2;go_loopw [22,11] (λi v wr=>∃k:Nat,i= ac k/\Af (k<=na/\abt w S d w (am Ap np cp) (am Ad nd cd) ((a.take k).map (qq t ag)) v wr)) (λi _ _=>na - (intOf i).toNat)
 .exact⟨0,rfl,lm,ST1.o⟩
 .obtain⟨k,rfl,HR⟩:=hrel;obtain⟨l,hl⟩:=HR.q1.own;obtain⟨A0,n0,c0,rfl⟩:=hl.1.form;have HL:=aa hl;clear hl;by_cases aJ:k<na
  .obtain⟨ba,oa,ca',Wg,-,-,pq,hca⟩:=HA.o.cells zbo;obtain rfl:Aa=some (an ba oa):=(by injection Wg);clear Wg;obtain⟨i,hi⟩:∃i,a[k]? =some i:=⟨_,Qf wl⟩;have JL:=hai.o i (Qi hi);have y0:jp wr ba (oa+k) (ac i):=(by refine(HR.q1.low.cell (p:=an ba (oa+k)) pq).trans ?_;rw[hca k zbo,Qe,Qt,hi];rfl);have y1:=HR.q1.box.j0;obtain⟨bp,op,cp',Tu,-,-,hbp,hcp⟩:=HP.o.cells Mx;obtain rfl:Ap=some (an bp op):=(by injection Tu);clear Tu;obtain⟨x,hx⟩:∃x,ag[i]? =some x:=⟨_,Qf JL.1⟩;have wA:=hr.o x (QB _ (Qi hx));obtain⟨x,rfl⟩:=Qeg wA.1;have MB:ag.getD i 0=x:=(by rw[Qe,hx];rfl);have hf:qq t ag i= .wr x (encI 5 (eI t i)):=(by rw[qq,MB];rfl);have y2:=(HR.q1.low.cell (p:=an bp (op+i)) hbp).trans (by rw[hcp i JL.1,MB]);have i0:(0:Int)<=k:=Mx;have i1:(k:Int)<na:=Mx;have i2:(0:Int)<=i:=Mx;have i3:(i:Int)<np:=wl;have fp:wrap64 ((k:Int)+1)=(k:Int)+1:=vW;have eu:=aa fp;have bj:=aa aJ;have tH:Af ((a.take (k+1)).map (qq t ag)=(a.take k).map (qq t ag)++[.wr x (encI 5 (eI t i))]):=by show _=_;rw[aA _ _ _ hi,QL,<-hf];rfl
   have HTw:=aa (ht.o.on (HR.q1.low.mono go));have HC:=aa (GQ wr tb cb mb t HTw.o i JL.2);have sr:=aa HR.q1;have tk:Af ((eI t i).length<=61/\∀x∈eI t i,0<=x/\x<65536):=⟨DN t i,λy hy=>by
    have:=ht.o.ok.range y (Q6 (Za hy));omega⟩
   have Hll:Af (l.length<=1000):=by have:=XF List.length HL.q1;rw[Qq,Qq,Qu] at this;exact Qh (Xg this) (Qh (Qdj _ _) (Qh HR.p1 (Qh Hn.p5 Fd)))
   clear aJ JL hi hx wA MB hf hca hcp HR;go_upto_region 6 with(first
    |(go_at_call 109;refine tx HC.o λcv W2 o2 b2=> ?_;obtain⟨O2,B2,HE⟩:=qC o2 b2 (lX W2 5 (.inr rfl) cv (eI t i) (aB.sl o2) tk.p1 tk.q1);clear o2 b2)
    |(go_at_call 58;refine HE.o.mono ?_;rintro e W3 ⟨g,hg,rfl,o3,b3⟩;obtain⟨O3,B3,G3⟩:=qC o3 b3 hg;clear o3 b3 hg))
   have py:=aa (Pd sr.o.low (Pd B2.o B3.o));have NT:=aa (Pd B2.o B3.o);have OS3:=aa (HL.p1.on NT.o);have uc:=Qh B2.o.size G3.o;have E8:=lY (k:=5) (l:=eI t i) ⟨Fd,Fd⟩ tk.p1;have hS:=eB.OC HL.p1 (λx hx=>Qn (hd.o x hx) sr.o.low.size);have JU:=aa (nF W3 (Iz S (Value.slice A0 n0 c0).ownBlock) d x (el g 0 128 128) (encI 5 (eI t i)) (O3.o.whole E8.1 E8.2) (jD λe=>XI _ (Qn (hS g e) uc)) (λx hx=>Qn (hS x hx) NT.o.size));have z1:=(NT.o.cell (p:=ol w) sr.o.box.lt).trans y1;have z2:=(NT.o.cell (p:=an bp (op+i)) (Qn hbp sr.o.low.size)).trans y2;clear y0 y1 y2 HC HE E8 hS uc;go_wp2_with(first
    |(go_at_call 39;refine JU.o.mono ?_;rintro e W4 ⟨fv,rfl,s4,b4⟩;have S4:=aa s4;have B4:=aa b4;have K4:=aa (Jy OS3.o S4.o B4.o);clear s4 b4)
    |(at_builtin;(with_reducible refine wl_app_st (os:= .tmp 33) (ox:= .tmp 42) (base:=w.heap.size) (m:=[(fv,.wr x (encI 5 (eI t i)))]) K4.p1 K4.p2 K4.q2 ?_ ?_ ?_ ?_ ?_);(·have:=Hll.o;simp;omega);(·exact Qh py.o.size (Qh B4.o.size Sv));(·rfl);(·rfl);intro v5 W5 o5 g5;have O5:=aa o5;have G5:=aa g5;clear o5 g5))
   go_roundw
   .have aU:ci w W5:=((Pd py.o B4.o).alloc (Qh py.o.size B4.o.size) _).grown G5.o (Qh py.o.size (Qh B4.o.size Sv)) (λj e=>(Xr OS3.p1 j e).1);have WA:aq W5 w 55 [el bp op np cp,am Ad nd cd]:=zeG;refine⟨k+1,xh,bj.o,⟨_,O5.o,?_⟩,WA,aU⟩;rw[tH.o,QL,HL.q1];rfl
   .exact wn
  .have i1:¬(k:Int)<na:=(by omega);have Hk:Af ((a.take k).map (qq t ag)=a.map (qq t ag)):=(by show _=_;rw[Qj wl]);have sr:=aa HR.q1;rw[Hk.o] at sr HL;clear HR aJ Hk;go_wp2;go_loopw [47,11] (λi v wr=>∃k:Nat,i= ac k/\Af (k<=nb/\abt w S d w (am Ap np cp) (am Ad nd cd) (a.map (qq t ag)++(b.take k).map (sy ag au)) v wr)) (λi _ _=>nb - (intOf i).toNat)
   .exact⟨0,rfl,lm,⟨l,HL.p1,by rw[HL.q1];simp⟩,sr.o.box,sr.o.low⟩
   .clear HL sr
    rename_i wq
    obtain⟨k,rfl,HR⟩:=hrel;obtain⟨l,hl⟩:=HR.q1.own;obtain⟨A0,n0,c0,rfl⟩:=hl.1.form;have HL:=aa hl;clear hl;by_cases aJ:k<nb
    .obtain⟨ba,oa,ca',Wg,-,-,pq,hca⟩:=HB.o.cells zbo;obtain rfl:Ab=some (an ba oa):=(by injection Wg);clear Wg;obtain⟨i,hi⟩:∃i,b[k]? =some i:=⟨_,Qf wl⟩;have JL:=hbi.o i (Qi hi);have y0:jp wr ba (oa+k) (ac i):=(by refine(HR.q1.low.cell (p:=an ba (oa+k)) pq).trans ?_;rw[hca k zbo,Qe,Qt,hi];rfl);obtain⟨y1,y1b⟩:=gh HR.q1.box;obtain⟨bp,op,cp',Tu,-,-,hbp,hcp⟩:=HDi.o.cells Mx;obtain rfl:Ad=some (an bp op):=(by injection Tu);clear Tu;obtain⟨x,hx⟩:∃x,au[i]? =some x:=⟨_,Qf JL.1⟩;have wA:=hr.o x (QD _ (Qi hx));obtain⟨x,rfl⟩:=Qeg wA.1;have MB:au.getD i 0=x:=(by rw[Qe,hx];rfl);have hf:sy ag au i= .wr x (encI 4 (bG ag i)):=(by rw[sy,MB];rfl);have y2:=(HR.q1.low.cell (p:=an bp (op+i)) hbp).trans (by rw[hcp i JL.1,MB]);have i0:(0:Int)<=k:=Mx;have i1:(k:Int)<nb:=Mx;have i2:(0:Int)<=i:=Mx;have i3:(i:Int)<nd:=wl;have fp:wrap64 ((k:Int)+1)=(k:Int)+1:=vW;have eu:=aa fp;have bj:=aa aJ;have tH:Af ((b.take (k+1)).map (sy ag au)=(b.take k).map (sy ag au)++[.wr x (encI 4 (bG ag i))]):=(by show _=_;rw[aA _ _ _ hi,QL,<-hf];rfl);have HPw:=aa (Sl.more (Sl.below HP.o HR.q1.low) HR.q1.low.size);have HC:=aa (KY wr _ ag HPw.o wl i JL.2);have sr:=aa HR.q1;have tk:=dK (yk ag i) (λy hy=>hr.o y (QB _ (Q6 (Za hy))):∀x∈bG ag i,0<=x/\x<=65535);have Hll:Af (l.length<=1000):=by have:=XF List.length HL.q1;rw[Qq,Qo,Qq,Qq,Qu] at this;have h1:a.length<=100:=Hn.p1▸Hn.p5;have h2:b.length<=100:=Hn.p2▸Hn.p6;exact Qh (Xg this) (Qh (Qcf h1 (Qh (Nat.min_le_right _ _) h2)) Fd)
     clear aJ JL hi hx wA MB hf hca hcp HR;go_upto_region 12 with(first
      |(go_at_call 110;refine HC.o.mono ?_;rintro e W2 ⟨⟨cv,rfl,o2⟩,rfl⟩;have HN:=aa (yo _ cv (bG ag i) o2 (Qh tk.p1 Fd) tk.q1);clear o2)
      |(go_at_call 53;refine tx HN.o λnv W2 o2 b2=> ?_;obtain⟨O2,B2,HE⟩:=qC o2 b2 (lX W2 4 (.inl rfl) nv (bG ag i) (aB.sl o2) tk.p1 (λy hy=>by have:=tk.q1 y hy;omega));clear o2 b2)
      |(go_at_call 58;refine HE.o.mono ?_;rintro e W3 ⟨g,hg,rfl,o3,b3⟩;obtain⟨O3,B3,G3⟩:=qC o3 b3 hg;clear o3 b3 hg))
     have py:=aa (Pd sr.o.low (Pd B2.o B3.o));have NT:=aa (Pd B2.o B3.o);have OS3:=aa (HL.p1.on NT.o);have uc:=Qh B2.o.size G3.o;have E8:=lY (k:=4) (l:=bG ag i) ⟨Fd,Fd⟩ tk.p1;have hS:=eB.OC HL.p1 (λx hx=>Qn (hd.o x hx) sr.o.low.size);have JU:=aa (nF W3 (Iz S (Value.slice A0 n0 c0).ownBlock) d x (el g 0 128 128) (encI 4 (bG ag i)) (O3.o.whole E8.1 E8.2) (jD λe=>XI _ (Qn (hS g e) uc)) (λx hx=>Qn (hS x hx) NT.o.size));have z1:=(NT.o.cell (p:=an w.heap.size 1) sr.o.box.lt).trans y1b;have z2:=(NT.o.cell (p:=an bp (op+i)) (Qn hbp sr.o.low.size)).trans y2;clear y0 y1 y1b y2 HC HE HN E8 hS uc;go_wp2_with(first
      |(go_at_call 39;refine JU.o.mono ?_;rintro e W4 ⟨fv,rfl,s4,b4⟩;have S4:=aa s4;have B4:=aa b4;have K4:=aa (Jy OS3.o S4.o B4.o);clear s4 b4)
      |(at_builtin;(with_reducible refine wl_app_st (os:= .tmp 60) (ox:= .tmp 69) (base:=w.heap.size) (m:=[(fv,.wr x (encI 4 (bG ag i)))]) K4.p1 K4.p2 K4.q2 ?_ ?_ ?_ ?_ ?_);(·have:=Hll.o;simp;omega);(·exact Qh py.o.size (Qh B4.o.size Sv));(·rfl);(·rfl);intro v5 W5 o5 g5;have O5:=aa o5;have G5:=aa g5;clear o5 g5))
     go_roundw
     .have aU:ci w W5:=((Pd py.o B4.o).alloc (Qh py.o.size B4.o.size) _).grown G5.o (Qh py.o.size (Qh B4.o.size Sv)) (λj e=>(Xr OS3.p1 j e).1);have WA:aq W5 w 55 [am Ap np cp,el bp op nd cd]:=zeG;refine⟨k+1,xh,bj.o,⟨_,O5.o,?_⟩,WA,aU⟩;rw[tH.o,<-QY,QL,HL.q1];rfl
     .exact wn
    .have i1:¬(k:Int)<nb:=(by omega);have Hk:Af ((b.take k).map (sy ag au)=b.map (sy ag au)):=(by show _=_;rw[Qj wl]);have sr:=aa HR.q1.low;rw[Hk.o] at HL;clear HR aJ Hk;go_wp2;go_ret;exact⟨_,rfl,l,HL.p1,HL.q1,sr.o⟩
variable{t:aE}{p:Nat -> Bool}{n:Nat}{l:GT}
def writeV_cons(bl:List (List Int))(w:Int×List Int)(r:List (Int×List Int)):eS bl (w::r)=eS (bl.set w.1.toNat w.2) r:=rfl
def wrV_len:∀(ws:List (Int×List Int)) (bl:List (List Int)),(eS bl ws).length=bl.length
 |[],_=>rfl
 |w::r,bl=>by rw[writeV_cons,wrV_len r];simp
def writeV_not:∀(ws:List (Int×List Int)) (bl:List (List Int)) (b:Nat),b∉ws.map (·.1.toNat)->(eS bl ws).getD b []=bl.getD b []
 |[],_,_,_=>rfl
 |w::r,bl,b,h=>by rw[Zs,QA] at h;rw[writeV_cons,writeV_not r _ b (λhm=>h (.inr hm)),getD_setN _ _ _ (λe=>h (.inl e))]
def writeV_mem:∀(ws:List (Int×List Int)) (bl:List (List Int)) (w:Int×List Int),(ws.map (·.1.toNat)).Nodup->w∈ws->w.1.toNat<bl.length->(eS bl ws).getD w.1.toNat []=w.2
 |[],_,_,_,h,_=>absurd h QV
 |a::r,bl,w,hn,h,hl=>by
  rw[Zs,Qez] at hn;rw[writeV_cons];obtain rfl|h:=QA.1 h
  .rw[writeV_not r _ _ hn.1,getD_set_eq _ _ hl]
  .exact writeV_mem r _ w hn.2 h zaC
def wasL(t:aE):List Int:=(range t.len).map t.mE
def counts_eq(t:aE):t.counts=(range t.len).map t.get:=by refine Qaf (by simp[aE.len]) λi h1 h2=> ?_;rw[Qah,Qbp];rw[aE.get,Qe,Qf h1];rfl
def countP_sum{f g h:Nat->Bool}:∀l:List Nat,(∀b∈l,(f b).toNat+(g b).toNat=(h b).toNat)->l.countP f+l.countP g=l.countP h
 |[],_=>rfl
 |a::r,hl=>by
  have ih:=countP_sum r λb hb=>hl b (Qs _ hb);have h1:=hl a (Qm ..);rw[Qai,Qai,Qai]
  revert h1
  cases f a<;>cases g a<;>cases h a<;>simp<;>omega
def keep_get(t:aE)(b:Nat):t.keep.get b=t.get b:=rfl
def keep_len(t:aE):t.keep.len=t.len:=rfl
def rep_none(n b:Nat):(replicate n (none:Option Int)).getD b none=none:=by rw[Qe,Zr];split<;>rfl
def keep_was(t:aE)(b:Nat):t.keep.mE b=t.get b:=by unfold aE.mE aE.keep;rw[rep_none];rfl
def keep_ok(h:t.Ok):t.keep.Ok:=by
 refine⟨h.n0,h.n1,by show(replicate t.len none).length=t.len;simp,h.range,λc hc=> ?_,?_,?_⟩
 .have hc:=hc;have:=QJ hc;cases this
 .have e:=countP_sum (f:=t.free) (g:=t.pD) (h:=t.keep.free) (range t.len) λb hb=>by have hb:=Zm.1 hb;unfold aE.free aE.pD;rw[keep_len,keep_get,keep_was];have hl:=Xa hb;rw[hl];cases hg:(t.get b==0)<;>cases hw:(t.mE b==0)<;>simp_all
  show t.cY+t.waits=_;rw[h.cY,h.waits,keep_len];omega
 .show(0:Int)=_;have:(range t.keep.len).countP t.keep.pD=0:=List.countP_eq_zero.2 λb hb=>by rw[aE.pD,keep_get,keep_was];cases(t.get b==0)<;>simp
  rw[this];rfl
def of_kept(h:t.Ok)(hk:t.kept=replicate t.len none):t=aE.of t.counts:=by
 obtain⟨counts,kept,cY,waits⟩:=t;have hl:aE.len ⟨counts,kept,cY,waits⟩=counts.length:=rfl;have hk:kept=replicate counts.length none:=hk;have hwas:∀b,aE.mE ⟨counts,kept,cY,waits⟩ b=counts.getD b 0:=λb=>by unfold aE.mE;show((kept.getD b none).getD _)=_;rw[hk,rep_none];rfl
 have hw:waits=0:=by have:=h.waits;rw[show(range (aE.len ⟨counts,kept,cY,waits⟩)).countP (aE.pD ⟨counts,kept,cY,waits⟩)=0 from List.countP_eq_zero.2 λb hb=>by rw[aE.pD,hwas];show ¬_;unfold aE.get;cases(counts.getD b 0==0)<;>simp] at this;exact this
 have hf:cY=(counts.length:Int) - (counts.countP λc=>decide (0<c)):=by
  have h1:=h.cY;have e:=countP_sum (f:=aE.free ⟨counts,kept,cY,waits⟩) (g:=λb=>decide (0<counts.getD b 0)) (h:=λ_=>true) (range counts.length) λb hb=>by
   have hb:=Zm.1 hb;have hr:=aE.ll h b;have hr:0<=counts.getD b 0:=hr.1;unfold aE.free;rw[hwas];show(decide (b<counts.length)&&(counts.getD b 0==0)&&(counts.getD b 0==0)).toNat+_=1;rw[Xa hb];by_cases h0:counts.getD b 0=0
   .rw[h0];rfl
   .rw[Xa (show 0<counts.getD b 0 by omega)];have:(counts.getD b 0==0)=false:=(by simpa using h0);rw[this];rfl
  have e2:(range counts.length).countP (λb=>decide (0<counts.getD b 0))=counts.countP λc=>decide (0<c):=by
   have h2:counts=(range counts.length).map λb=>counts.getD b 0:=by refine Qaf Sv λi h1 h2=> ?_;rw[Qah,Qbp,Qe,Qf h1];rfl
   conv=>rhs;rw[h2,Qid]
   rfl
  rw[e2,List.countP_true,Qbk] at e;have h1:cY=((range counts.length).countP (aE.free ⟨counts,kept,cY,waits⟩):Nat):=h1;omega
 unfold aE.of;rw[hk,hw,hf]
def room_not(h:t.Ok)(h2:2<=t.len):t.room 2=(t.len:Int) - ((range t.len).countP λb=> !t.freeHi b:Nat):=by
 have e:=countP_sum (f:=t.freeHi) (g:=λb=> !t.freeHi b) (h:=λ_=>true) (range t.len) λb _=>by cases t.freeHi b<;>rfl
 rw[List.countP_true,Qbk] at e;rw[aE.room_eq h h2];omega
def count_le_list(h:∀b,b<n->p b=true->b∈l):(range n).countP p<=l.length:=by rw[Qeu];refine Qbz (Qgj _ List.nodup_range) λb hb=> ?_;obtain⟨h1,h2⟩:=Qia.1 hb;exact h b (Zm.1 h1) h2
def count_ge_list(hn:l.Nodup)(h:∀b∈l,b<n/\p b=true):l.length<=(range n).countP p:=by rw[Qeu];exact Qbz hn λb hb=>Qia.2 ⟨Zm.2 (h b hb).1,(h b hb).2⟩
structure KInv(s:aX):Prop where
 slot:(s.slot:Int)=s.kept.gen%2
 right:nm s.kept=true
 here:kA (s.bl.getD s.slot [])=some s.kept
 other:∀y,kA (s.bl.getD (1 - s.slot) [])=some y->y.gen<s.kept.gen
 root:qE s.kept s.au=s.kept
 drs:s.au=s.kept.roots.take (mN s.t.len)
 bx:s.kept.blocks=s.t.len
 sb:s.eO.blocks=s.t.len
 sg:s.eO.gen=s.kept.gen
 sr:∀r∈s.eO.roots,r<s.t.len
 nd:∀(i j:Nat) (y:Int),(s.ag++s.au)[i]? =some y->(s.ag++s.au)[j]? =some y->i=j
 rg:∀y∈s.ag++s.au,2<=y/\y<s.t.len/\s.t.get y.toNat=1/\s.t.mE y.toNat=1/\s.ik y.toNat=false
 th1:∀i,i<s.au.length->pB 4 (s.bl.getD (s.au.getD i 0).toNat [])=some (bG s.ag i)
 th2:∀i,i<s.ag.length->pB 5 (s.bl.getD (s.ag.getD i 0).toNat [])=some (bG (wasL s.t) i)
 Ej:∀p∈s.bl,p.length=128/\∀x∈p,aI x
def kSt(s:aX)(nx:Nat):aX:=⟨s.bl,aE.of (wasL s.t),nx,s.ag,s.au,replicate s.t.len none,s.kept,s.kept,s.slot,false⟩
def idx_nodup{l:Fr}(h:∀(i j:Nat) (y:Int),l[i]? =some y->l[j]? =some y->i=j):l.Nodup:=by rw[List.Nodup,Qio];intro i j hi hj wJ e;have:=h i j l[j] (by rw[Qf hi,e]) (Qf hj);omega
def toNat_nodup{l:Fr}(h:l.Nodup)(h0:∀x∈l,0<=x):(l.map Int.toNat).Nodup:=by unfold List.Nodup at h|-;rw[Qhf];refine List.Pairwise.imp_of_mem (λ{a b} ha hb bT e=>bT ?_) h;have:=h0 a ha;have:=h0 b hb;omega
def seenOk_of:∀(l seen:Fr),l.Nodup->(∀y∈l,y∉seen/\t.get y.toNat≠0)->jE t seen l=true
 |[],_,_,_=>rfl
 |b::r,seen,hn,h=>by
  rw[Qez] at hn;obtain⟨h1,h2⟩:=h b (Qm ..);rw[jE];split
  .exact seenOk_of r seen hn.2 λy hy=>h y (Qs _ hy)
  .rw[seenOk_of r (b::seen) hn.2 λy hy=>⟨λhm=> ?_,(h y (Qs _ hy)).2⟩]
   .simp[h1,h2]
   .rcases QA.1 hm with rfl|hm
    .exact hn.1 hy
    .exact(h y (Qs _ hy)).1 hm
def place_start{s:aX}{hold:GT}(h:BInv s hold)(k:KInv s):ke s.t s.ag s.au=true/\PlG hold s.t s.ag s.au (NX s.t s.next s.ag s.au):=by
 have im:=idx_nodup k.nd;have ta:ke s.t s.ag s.au=true:=by rw[ke,Xa h.ok.pg,Xa h.ok.dg,seenOk_of _ _ im λy hy=>⟨QV,by have:=(k.rg y hy).2.2.1;omega⟩];rfl
 refine⟨ta,⟨?_,rfl,λ_=>rfl,rfl,rfl,λb hb=>(h.own b hb).2.2.1,λy hy _=>⟨(k.rg y hy).1,(k.rg y hy).2.2.1⟩,λi j y hi hj _=>k.nd i j y hi hj,λy hy _ hm=> ?_,λb hb hg=> ?_,λ_ _=>rfl,λ_ _=>rfl,λi hi=> ?_,λi hi=> ?_⟩⟩
 .have hu:Bl (NX s.t s.next s.ag s.au)=s.ag.length+s.au.length:=by unfold Bl NX;simp only;rw[countP_not_false,countP_not_false]
  refine⟨h.tok,by have:=h.n16;show 2<=s.t.len;omega,h.ok.n2,h.ok.nl,zdz,zdz,h.ok.rg,?_⟩;rw[hu];show((s.ag.length+s.au.length:Nat):Int)<=s.t.room 2;have:=h.need;unfold kU at this;have h1:=h.ok.pg;have h2:=h.ok.dg;rw[<-h1,<-h2] at this
  push_cast
  exact this
 .have hy:y∈s.ag++s.au:=hy;have hr:=k.rg y hy;obtain⟨-,-,-,n1,n2,-⟩:=h.own _ hm;have e:((y.toNat:Nat):Int)=y:=by omega
  rw[e] at n1 n2;obtain h1|h1:=Qz.1 hy
  .exact n1 h1
  .exact n2 h1
 .have hb:b<s.t.len:=hb;have hg:=hg;obtain h1|h1:=h.rest b hb hg
  .exact .inl h1
  .have h1:(b:Int)∈s.ag++s.au:=Qz.2 h1;have:=(k.rg _ h1).1;exact .inr ⟨Mx,h1⟩
 .have hi:(s.ag.map λ_=>false).getD i false=true:=hi;rw[Qe,Qt] at hi;cases hx:s.ag[i]? with
  |none=>exact zeU
  |some v=>exact zeU
 .have hi:(s.au.map λ_=>false).getD i false=true:=hi;rw[Qe,Qt] at hi;cases hx:s.au[i]? with
  |none=>exact zeU
  |some v=>exact zeU
def St(w:Wo)(d pl:Nat)(bl:List (List Int))(h:cF w d pl bl)(v:Va)(l:List (Va×ri))(hv:Sl w w 1 v l.length (l.map Prod.fst))(Wg:Ap (DS d pl) v)(hl:∀p∈l,lI w d pl p.1 p.2/\abp bl.length p.2)(hn:l.length<=9000)(YE:(l.map Prod.snd).getLast? =some .fl):
  Calls prog 43 #[v] w (iF (ac 0) λw' =>cF w' d pl (iW (bl,[]) (l.map Prod.snd)).1/\aG (DS d pl) w w') :=by
 obtain⟨A,c,rfl,jb,pk⟩:=hv.form;have⟨n,jX⟩:=eX l.length;have HV:=aa hv;have HVa:=aa Wg;have HL:=aa hl;have ahU:=aa YE;have H:=aa h;have Hn:=dK jX (by omega:n<=9000);have j5:(n:Int)<=9000:=Mx;rw[<-jX];have ZF:=λ(w:Wo) (a:Addr) (f:Fn) (xs ys:Zvv)=>run_store_func (P:=prog) (w:=w) (a:=a) (m:= .plain) f xs ys;simp only[stored] at ZF;clear hv Wg hl h hn jX jb pk YE;go_in;go_wp2_with fail;go_loopw [8] (λi wr=>∃k:Nat,i= ac k/\Af (k<=n/\((∃wv,mz wr d pl (iW (bl,[]) ((l.take k).map Prod.snd)).1 w wv (iW (bl,[]) ((l.take k).map Prod.snd)).2)/\(((l.take k).map Prod.snd).getLast? =some .fl->cF wr d pl (iW (bl,[]) ((l.take k).map Prod.snd)).1))/\aG (DS d pl) w wr)) (λi _=>n - (intOf i).toNat)
 .exact⟨0,rfl,lm,⟨H.o.Ym _,λe=>by simp at e⟩,aG.refl _ _⟩
 .obtain⟨k,rfl,HR⟩:=hrel;by_cases aJ:k<n
  .have hi:(k:Int)<n:=(by omega);have ml:(0:Int)<=k:=Mx;have bQ:k<l.length:=wl;have fp:wrap64 ((k:Int)+1)=(k:Int)+1:=vW;have bj:=aa aJ;have eu:=aa fp;obtain⟨b,o,c',hv,-,-,dL⟩:=HV.o.row Mx;have⟨p,hp⟩:=eX (l[k]);have Wm:p∈l:=(by rw[hp];exact QI bQ);have gZ:=HVa.o b o _ c' Mx hv;have aH:=(HR.q2.cell (p:=an b (o+k)) dL.1 gZ).trans (dL.2 k _ (by rw[Qt,Qf bQ,<-hp];rfl));cases hv;have cO:=(HL.o p Wm).1.aL HR.q2;have ec:=(HL.o p Wm).2;obtain⟨wv,hD⟩:=HR.o.2.1.1;have cz:=HR.q2.size;have hwl:=Dl (bl,[]) ((l.take k).map Prod.snd);rw[Qq,Qu,Xq] at hwl;have ZD:(l.take (k+1)).map Prod.snd=(l.take k).map Prod.snd++[p.2]:=(by rw[XJ bQ,QL,<-hp];rfl);have tH:=aa ZD;obtain⟨pv,ps⟩:=p;have HC:=aa HR.q2;have H9:=aa cz;have HDw:=aa hD;cases ps with
   |fl=>
    have zh:=cO;subst zh;have AD:=aF wr (.cells #[.func (.func 42) #[d] #[]] 97);have HF:=aa (LM _ d pl _ _ _ _ (hD.on AD) wl);have HbA:=aa AD;clear hp Wm gZ cO ec hwl ZD hD cz aJ bQ dL HR AD;go_wp2_with(go_at_call 42;refine HF.o.mono ?_;rintro e W4 ⟨rfl,d4,c4⟩;have D4:=aa d4;have C4:=aa c4;clear d4 c4);go_roundw
    .refine⟨k+1,xh,bj.o,?_,(HC.o.trans (aG.aZ HbA.o)).trans (C4.o.mono λx _ h=>h)⟩;rw[tH.o,xX];exact⟨D4.o.Ym _,λ_=>D4.o⟩
    .exact wn
   |wr i data=>
    have Bo:=cO;obtain⟨b1,b2,b3,e,-⟩:=Cl wr d pl _ _ _ _ hD cz wl pv i data Bo (by rw[xW];exact ec);subst e;have AD:=aF wr (.cells #[.func (.func 103) #[] #[b1,b2,b3]] 97);obtain⟨b1',b2',b3',e,hF⟩:=Cl _ d pl _ _ _ _ (hD.on AD) (Qh cz AD.size) wl _ i data (Bo.on AD) (by rw[xW];exact ec);cases e;have HF:=aa hF;have HbA:=aa AD;have Hwv:Af (∀x,wv.ownBlock=some x->w.heap.size<=x):=λx hx=>(Xr hD.row x hx).1;clear hp Wm gZ cO Bo ec hwl ZD hD cz aJ bQ dL HR AD hF;go_wp2_with(go_at_call 103;refine HF.o.mono ?_;rintro e W4 ⟨rfl,wv4,d4,c4⟩;have D4:=aa d4;have C4:=aa c4;clear d4 c4);go_roundw
    .refine⟨k+1,xh,bj.o,?_,?_⟩
     .rw[tH.o,xX];exact⟨⟨wv4,D4.o⟩,λe=>by simp at e⟩
     .refine(HC.o.trans (aG.aZ HbA.o)).iR C4.o (λx _ h=>h) (λx hx h=> ?_);obtain h|h:=h
      .exact .inl h
      .exact absurd hx (XV.2 (Hwv.o x h))
    .exact wn
  .obtain rfl:k=n:=(by have:=HR.p1;omega);have e1:l.take k=l:=Qj wl;have fF:=aa HR.q1;rw[e1] at fF;clear e1 HR;go_wp2_with fail;go_ret;exact⟨rfl,fF.o.1.2 ahU.o,fF.q1⟩
variable{s:aN}{sb tb:Nat}{W W5:Wo}{sd sp v0 v1 v2 wd wp:Va}{xs:Fr}{s0 s1 s2:ri}
def GF(s:Nat)(l:Fr):(l.flatMap (mH s)).length=s*l.length:=by
 induction l with
 |nil=>simp
 |cons a r ih=>rw[QH,Qo,ih,de,QF,Nat.mul_succ,Qcm]
def Mk(h:bM s):(qx s).length=123:=by unfold qx;simp only[Qo,de,GF,h.r8,h.m8,QK]
def GK(h:bM s):(J7 s).length=128/\∀x∈J7 s,aI x:=by
 refine⟨oq _ _ (Xg (Mk h)),lP ⟨Fd,Fd⟩ λx hx=> ?_⟩;unfold qx at hx;simp only[Qz,QT] at hx;rcases hx with((((h1|h1)|⟨y,-,h1⟩)|⟨y,-,h1⟩)|h1)|h1
 .exact eW _ _ x h1
 .exact eW _ _ x h1
 .exact eW _ _ x h1
 .exact eW _ _ x h1
 .rw[QJ h1];exact⟨Fd,Fd⟩
 .exact eW _ _ x h1
def cZ(n:Nat):fk:=(fm (aE.new n) 2 (replicate (kN n) 0) (replicate (mN n) 0)).2
def zn(n:Nat):aN:=qE ⟨1,n,replicate 8 0,replicate 8 0⟩ (cZ n).au
def zeg(n:Nat):List ri:=[.wr 0 iy,.wr 1 iy,.fl]++tR (cZ n).t (cZ n).ag (cZ n).au (gG (cZ n).pp) (gG (cZ n).pd)++[.fl,.wr 1 (J7 (zn n)),.fl]
structure UW(n:Nat):Prop where
 n0:16<=n
 n1:n<=4096
 e:(fm (aE.new n) 2 (List.replicate (kN n) 0) (List.replicate (mN n) 0)).1=0
 pl:anH (cZ n)/\(cZ n).t.len=n/\(cZ n).ag.length=kN n/\(cZ n).au.length=mN n
 x:bM (zn n)/\nm (zn n)=true/\bM (⟨1,n,List.replicate 8 0,List.replicate 8 0⟩:aN)/\∀d∈(cZ n).au,0<=d/\d<=65535
 st:∀s∈zeg n,abp n s
def BE(h0:16<=n)(h1:n<=4096):1<=kN n/\kN n<=70/\1<=mN n/\mN n<=2/\61*(kN n - 1)<n/\61*(mN n - 1)<kN n:=by obtain⟨e1,e2⟩:=uK (n:=n) Mx;unfold aR at e1 e2;rw[Xd Mx] at e1 e2;omega
def xK{l:List Bool}{i:Nat}(h:i∈gG l):i<l.length:=Zm.1 (Qia.1 h).1
def oo(l:List Bool):(gG l).length<=l.length:=by have:=Qby (λi=>l.getD i false) (range l.length);rw[Qbk] at this;exact this
def yr(n:Nat)(hn:n<=100000)(w:Wo):(Instr.makeSlice 53 (ac n) (ac n)).run prog w= .ok (el w 0 n n) (w.alloc (.cells (replicate n (ac 0)).toArray 3)):=
 eV underlying53 iE (eC .i64 0) Fd n hn w
structure Ua(W3 X:Wo)(k m g0 g1:Nat)(sb:Option Nat):Prop where
 low:Below W3 W3 X
 b0:aq X g0 3 (List.replicate k (.int .i64 0))
 b1:aq X g1 3 (List.replicate m (.int .i64 0))
 s:∀b,sb=some b->aq X b 55 [(),()]/\W3<=b
def rC(w:Wo)(a b c:Obj):(((w.alloc a).alloc b).alloc c).heap[w.heap.size]? =some a:=by rw[Qej _ _ _ BY];exact dx w a b
def rB(w:Wo)(a b c:Obj):(((w.alloc a).alloc b).alloc c).heap[w.heap.size+1]? =some b:=by rw[Qej _ _ _ Sv];exact cL w a b
def rA(w:Wo)(a b c:Obj):(((w.alloc a).alloc b).alloc c).heap[w.heap.size+1+1]? =some c:=by have:=cL (w.alloc a) b c;rwa[World.size_alloc] at this
def abn(w:Wo)(a b:Obj):ci w ((w.alloc a).alloc b):=((Xj _ w).alloc go a).alloc Sv b
def Ka(w:Wo)(a b c:Obj):ci w (((w.alloc a).alloc b).alloc c):=(abn w a b).alloc BY c
def amU(w:Wo)(k m:Nat):Ua w ((w.alloc (.cells (Array.replicate k (ac 0)) 3)).alloc (.cells (Array.replicate m (ac 0)) 3)).drew k m (w.heap.size) (w.heap.size+1) none:=by rw[<-Zg,<-Zg];exact⟨(abn w _ _).drew,dx w _ _,cL w _ _,λb h=>zaY⟩
def amT(w:Wo)(k m:Nat):Ua w ((w.alloc (.cells (Array.replicate m (ac 0)) 3)).alloc (.cells (Array.replicate k (ac 0)) 3)).drew k m (w.heap.size+1) (w.heap.size) none:=by rw[<-Zg,<-Zg];exact⟨(abn w _ _).drew,cL w _ _,dx w _ _,λb h=>zaY⟩
def ahH(w:Wo)(k m:Nat):Ua w (((w.alloc (.cells (Array.replicate k (ac 0)) 3)).alloc (.cells (Array.replicate m (ac 0)) 3)).alloc (.cells #[(),()] 55)).drew k m (w.heap.size) (w.heap.size+1) (some (w.heap.size+1+1)):=by rw[<-Zg,<-Zg];exact⟨(Ka w _ _ _).drew,rC w _ _ _,rB w _ _ _,λb h=>by cases h;exact⟨rA w _ _ _,Mx⟩⟩
def ahG(w:Wo)(k m:Nat):Ua w (((w.alloc (.cells (Array.replicate k (ac 0)) 3)).alloc (.cells #[(),()] 55)).alloc (.cells (Array.replicate m (ac 0)) 3)).drew k m (w.heap.size) (w.heap.size+1+1) (some (w.heap.size+1)):=by rw[<-Zg,<-Zg];exact⟨(Ka w _ _ _).drew,rC w _ _ _,rA w _ _ _,λb h=>by cases h;exact⟨rB w _ _ _,Mx⟩⟩
def ahF(w:Wo)(k m:Nat):Ua w (((w.alloc (.cells (Array.replicate m (ac 0)) 3)).alloc (.cells (Array.replicate k (ac 0)) 3)).alloc (.cells #[(),()] 55)).drew k m (w.heap.size+1) (w.heap.size) (some (w.heap.size+1+1)):=by rw[<-Zg,<-Zg];exact⟨(Ka w _ _ _).drew,rB w _ _ _,rC w _ _ _,λb h=>by cases h;exact⟨rA w _ _ _,Mx⟩⟩
def ahE(w:Wo)(k m:Nat):Ua w (((w.alloc (.cells (Array.replicate m (ac 0)) 3)).alloc (.cells #[(),()] 55)).alloc (.cells (Array.replicate k (ac 0)) 3)).drew k m (w.heap.size+1+1) (w.heap.size) (some (w.heap.size+1)):=by rw[<-Zg,<-Zg];exact⟨(Ka w _ _ _).drew,rA w _ _ _,rC w _ _ _,λb h=>by cases h;exact⟨rB w _ _ _,Mx⟩⟩
def ahD(w:Wo)(k m:Nat):Ua w (((w.alloc (.cells #[(),()] 55)).alloc (.cells (Array.replicate k (ac 0)) 3)).alloc (.cells (Array.replicate m (ac 0)) 3)).drew k m (w.heap.size+1) (w.heap.size+1+1) (some (w.heap.size)):=by rw[<-Zg,<-Zg];exact⟨(Ka w _ _ _).drew,rB w _ _ _,rA w _ _ _,λb h=>by cases h;exact⟨rC w _ _ _,Mx⟩⟩
def ahC(w:Wo)(k m:Nat):Ua w (((w.alloc (.cells #[(),()] 55)).alloc (.cells (Array.replicate m (ac 0)) 3)).alloc (.cells (Array.replicate k (ac 0)) 3)).drew k m (w.heap.size+1+1) (w.heap.size+1) (some (w.heap.size)):=by rw[<-Zg,<-Zg];exact⟨(Ka w _ _ _).drew,rA w _ _ _,rB w _ _ _,λb h=>by cases h;exact⟨rC w _ _ _,Mx⟩⟩
structure uF(w:Wo)(n tb:Nat)(sp sd wp wd:Va)(W:Wo):Prop where
 fh:∃cb mb,bf W tb cb mb (cZ n).t
 sp:Ns W W .i64 sp (cZ n).ag
 sd:Ns W W .i64 sd (cZ n).au
 wp:Ns W W .i64 wp (eT (cZ n).pp)
 wd:Ns W W .i64 wd (eT (cZ n).pd)
 low:Below w w W
def uF.on{W' :Wo}(h:uF w n tb sp sd wp wd W)(hb:ci W W'):uF w n tb sp sd wp wd W' :=by obtain⟨cb,mb,ht⟩:=h.fh;exact⟨⟨cb,mb,ht.on hb⟩,(Sl.below h.sp hb).more hb.size,(Sl.below h.sd hb).more hb.size,(Sl.below h.wp hb).more hb.size,(Sl.below h.wd hb).more hb.size,Pd h.low hb⟩
def US.form{b:Nat}(h:US w b v xs):∃A c,v= am A xs.length c:=by obtain⟨A,c,e,-,-⟩:=Ns.form h.1;exact⟨A,c,e⟩
def Ns.apB{B:Nat}{k:IntKind}{T:Fy}{cs:Ox}(h:Ns w B k v xs)(hb:aq w sb T cs)(hc:∀u∈cs,∀y,u≠ .int k y):Ap (λx=>x=sb) v:=by intro b o n c hn e iV;obtain⟨A,c',hv,-,-⟩:=h.form;rw[hv] at e;injection e with e1 e2 e3;obtain⟨b',o',c'',mQ,-,-,-,aH⟩:=h.cells Mx;rw[hv] at mQ;injection mQ with f1 f2 f3;rw[e1] at f1;injection f1 with f1;injection f1 with f1 f4;have h0:=aH 0 Mx;rw[<-f1,iV] at h0;have h0:=(Qen w sb _ _ _ _ hb).symm.trans h0;exact hc _ (by have:=Qi zas;exact this) _ rfl
def oD:∀u∈([(),()]:List Va),∀y,u≠ ac y:=by intro u hu y e;subst e;simp at hu
def uF.set(h:uF w n tb sp sd wp wd W5)(hb:aq W5 sb 55 [(),()])(hs:w<=sb):
  uF w n tb sp sd wp wd ((W5.setCell (ol sb) sp).setCell (an sb 1) sd)/\aq ((W5.setCell (ol sb) sp).setCell (an sb 1) sd) sb 55 [sp,sd]/\w<=sb:=by
 have hc:aG (λx=>x=sb) W5 (rc (rc W5 sb 0 sp) sb 1 sd):=(kh W5 sb 0 sp).setCell (λ_=>rfl) sd;obtain⟨cb,mb,ht⟩:=h.fh;refine⟨⟨⟨cb,mb,ht.aL hc (λe=>hb.ne ht.own Fd e.symm) (λe=>hb.ne ht.counts Fd e.symm) (λe=>hb.bS ht.kept e.symm)⟩,?_,?_,?_,?_,(h.low.setCell (p:=ol sb) hs _).setCell (p:=an sb 1) hs _⟩,hb.NV sp sd,hs⟩
 .exact(Sl.aL h.sp hc go (h.sp.apB hb oD)).more hc.size
 .exact(Sl.aL h.sd hc go (h.sd.apB hb oD)).more hc.size
 .exact(Sl.aL h.wp hc go (h.wp.apB hb oD)).more hc.size
 .exact(Sl.aL h.wd hc go (h.wd.apB hb oD)).more hc.size
def uF.amS(h:uF w n tb sp sd wp wd W5):
  uF w n tb sp sd wp wd (W5.alloc (.cells #[sp,sd] 55))/\aq (W5.alloc (.cells #[sp,sd] 55)) W5 55 [sp,sd]/\w.heap.size<=W5.heap.size:=
 ⟨h.on (aF W5 _),ar W5 [sp,sd] _,h.low.size⟩
def Ds(h0:cB W S d v0 s0)(h1:cB W S d v1 s1)(h2:cB W S d v2 s2)(hb:base<=W):
  eB (W.alloc (.cells #[v0,v1,v2] 97)) base S d (el W 0 3 3) [(v0,s0),(v1,s1),(v2,s2)]:=by
 refine⟨⟨rfl,.inr ⟨W.heap.size,3,#[v0,v1,v2],rfl,hb,Qea W _,go,AN,rfl,rfl⟩⟩,λp hp=> ?_⟩;have key:∀{v:Va} {s:ri},cB W S d v s->cB (qr W #[v0,v1,v2] 97) (Iz S (some W)) d v s:=λh=>by
  refine cB.on (cB.set h λx hx hT=> ?_) (aF W _);obtain e|e:=hT
  .exact e
  .have:=Qr e;omega
 simp only[QA,QV,Qiy] at hp;obtain rfl|rfl|rfl:=hp
 .exact key h0
 .exact key h1
 .exact key h2
def FF(h0:cB W S d v0 s0)(h1:cB W S d v1 s1)(h2:cB W S d v2 s2):
  Sl (W.alloc (.cells #[v0,v1,v2] 97)) (W.heap.size+1) 1 (el W 0 3 3) [(v0,s0),(v1,s1),(v2,s2)].length ([(v0,s0),(v1,s1),(v2,s2)].map Prod.fst)/\∀p∈[(v0,s0),(v1,s1),(v2,s2)],cB (W.alloc (.cells #[v0,v1,v2] 97)) S d p.1 p.2:=by
 refine⟨kT rfl go AN (Jc W [v0,v1,v2] _),λp hp=> ?_⟩;simp only[QA,QV,Qiy] at hp;obtain rfl|rfl|rfl:=hp
 .exact h0.on (aF W _)
 .exact h1.on (aF W _)
 .exact h2.on (aF W _)
def dn.not_row{g:Nat}{bs:Fr}{e:Fy}{sz:Nat}{xs:Ox}(h:dn w g bs)(he:5≠e)(ho:w.ownsRow base e sz v n xs):v.ownBlock≠some g:=by
 obtain⟨cs,h0,-,-⟩:=h;intro e1;rcases ho.2 with⟨rfl,_⟩|⟨g',cap,cur,rfl,_,h1,_⟩
 .cases e1
 .cases e1;rw[h0] at h1;injection h1 with h1;injection h1 with _ h2;exact he h2
def VI{pl:Nat}{bl:List (List Int)}{l:List (Va×ri)}(h:cF w d pl bl)(hn:n=bl.length)(hd:∀x,DS d pl x->x<w)(h0:UW n)(hb:ci w W)(ho:eB W w (DS d pl) d v l)(hl:l.map Prod.snd=zeg n)(hll:l.length<=9000):
  Calls prog 43 #[v] W (iF (ac 0) λw' =>cF w' d pl (iW (bl,[]) (zeg n)).1/\aG (DS d pl) W w') :=by
 rw[<-hl];refine St W d pl bl (h.on hb) v l (Sl.bU ho.1) (λb o m c hm e tF=> ?_) (λp hp=>⟨(ho.2 p hp).is (λx hx=> .inl hx),?_⟩) hll ?_
 .subst e;exact XV.2 (Xr ho.1 b rfl).1 (hd b tF)
 .rw[<-hn];exact h0.st _ (hl▸(List.mem_map_of_mem hp))
 .rw[hl];rw[zeg,List.getLast?_append];rfl
def Gw(w:Wo)(d pl:Nat)(bl:List (List Int))(h:cF w d pl bl)(hfo:UW bl.length):
  Calls prog 14 #[d] w (iF (ac 0) λw' =>cF w' d pl (iW (bl,[]) (zeg bl.length)).1/\aG (DS d pl) w w') :=by
 have⟨n,hn⟩:=eX bl.length;have h0:16<=n:=by rw[hn];exact h.n0
 have h1:n<=4096:=by rw[hn];exact h.n1
 have HL:=aa (zN w d pl n _ (by rw[hn];exact h.own));have HT:=aa (Cv w n Mx h1);obtain⟨e1,e2⟩:=uK (n:=n) Mx;obtain⟨q1,q2,q3,q4,q5,q6⟩:=BE h0 h1;have Hq:=kH (by rw[hn];exact hfo:UW n) h1 q2 q4;clear hfo;have⟨k,hk⟩:=eX (kN n);have⟨m,hm⟩:=eX (mN n);rw[<-hk,<-hm] at e2;rw[<-hk] at e1 q2;rw[<-hm] at q4;have tp:=aa (λW=>dY W n Mx Mx);have AJ:=aa (λW=>dY W k Mx Mx);rw[<-e1] at tp;rw[<-e2] at AJ;have Az:=yr k Mx;have Nf:=yr m Mx;have xE:=dK hk hm;have H:=aa h;have Hn:=aa hn;have n1:(n:Int)<=4096:=Mx
 have n0:((n:Int)==0)=false:=Xc Mx;rw[<-hn];clear h h0 h1 e1 e2 q1 q2 q3 q4 q5 q6 hk hm hn;go_in;go_upto_region 7 with(first
  |(go_at_call 46;refine HL.o.mono ?_;rintro e W2 ⟨rfl,rfl⟩)
  |(go_at_call 47;refine HT.o.mono ?_;rintro e W2 ⟨tb,cb,mb,rfl,t2,l1,l2,l3,b2⟩;have T2:=aa t2;have B2:=aa b2;have L2:Af (w.heap.size<=tb/\w.heap.size<=cb/\w.heap.size<=mb):=⟨l1,l2,l3⟩;have HNP:=aa (Cw W2 tb n 2 _ _ (by have:=t2.x0;rw[zG] at this;exact this) (by have:=Hq.p1.n0;omega) (by have:=Hq.p1.n0;omega));clear t2 b2 l1 l2 l3)
  |(go_at_call 48;refine HNP.o.mono ?_;rintro e W3 ⟨pb,rfl,lp,p3,b3⟩;obtain⟨P3,B3,Lp⟩:=qC p3 b3 lp;clear p3 b3 lp)
  |(go_at_call 30;refine(tp.o _).mono ?_;rintro e W4 ⟨rfl,rfl⟩))
 have HP:Af (∀X g0 g1 sb,Ua W3 X k m g0 g1 sb->Calls prog 35 #[tb,pb,.agg #[el g0 0 k k,el g1 0 m m]] X λe W=>∃A1 n1 c1 A2 n2 c2 wp wd,e= .returned (.tuple #[.agg #[am A1 n1 c1,am A2 n2 c2],wp,wd,ac 0])/\uF w n tb (am A1 n1 c1) (am A2 n2 c2) wp wd W/\W3.heap.size<=W.heap.size/\∀b,sb=some b->aq W b 55 [(),()]/\w.heap.size<=b):=by
  intro X g0 g1 sb hX;have jW:=B2.o.size;have hTX:=(T2.o.on B3.o).on hX.low;have hPX:=P3.o.on hX.low;have q:=Hq.o;have q16:=q.1.n0;have oI:Ns X X .i64 (el g0 0 k k) (replicate k 0):=by have:=hX.b0.sl (o:=0) (n:=k) (sz:=1) (c:=k) Sv go (by unfold maxLen;have:=xE.p1;omega);unfold Ns;rw[QK,Qdg];rwa[Zl,Qj Sv] at this
  have mM:Ns X X .i64 (el g1 0 m m) (replicate m 0):=by have:=hX.b1.sl (o:=0) (n:=m) (sz:=1) (c:=m) Sv go (by unfold maxLen;have:=xE.q1;omega);unfold Ns;rw[QK,Qdg];rwa[Zl,Qj Sv] at this
  obtain⟨e1,e2⟩:=uK (n:=n) Mx;have hc:=FX X tb cb mb pb 2 (aE.new n) hTX hPX go zcB _ _ (replicate k 0) (replicate m 0) oI mM (by rw[zG,QK,xE.p1];exact e1) (by rw[QK,QK,xE.p1,xE.q1];exact e2)
   (λy hy=>by rw[Qas] at hy;rw[QJ hy];exact⟨Fd,Fd⟩)
  refine hc.mono λe W hW=> ?_;obtain⟨⟨v,rfl,hv⟩,hT,hP,hC⟩:=hW;rw[xE.p1,xE.q1] at hv hT;have hf:=q.1.e;rcases hv with⟨h1,-⟩|⟨-,sp,sd,wp,wd,rfl,h2,h3,h4,h5⟩
  .exact absurd hf h1
  .have l2:=L2.o;have lp:=Lp.o;have hQ:∀x,QS pb tb cb mb x->w.heap.size<=x:=λx hx=>(by obtain e|e|e|e:=hx<;>omega);have hwX:=(B2.o.trans (B3.o.mono jW)).trans (hX.low.mono (Qh jW B3.o.size));obtain⟨A1,c1,rfl⟩:=h2.form;obtain⟨A2,c2,rfl⟩:=h3.form;refine⟨A1,_,c1,A2,_,c2,wp,wd,rfl,⟨⟨cb,mb,hT⟩,h2.1,h3.1,h4.ns,h5.ns,hwX.trans (hC.below hwX.size (λx hx hq=>XV.2 (hQ x hq) hx))⟩,Qh hX.low.size hC.size,λb hb=> ?_⟩;obtain⟨hs,Ey⟩:=hX.s b hb;refine⟨hs.aL hC ?_,Qh jW (Qh B3.o.size Ey)⟩;rintro(e|e|e|e)
   .exact hs.ne hPX Fd e
   .exact hs.ne hTX.own Fd e
   .exact hs.ne hTX.counts Fd e
   .exact hs.bS hTX.kept e
 have NG:=aa (Qh B2.o.size B3.o.size);go_cut [9,10,11,12] from 17 to 88 (λv9 v10 v11 v12 W=>∃sb sp sd,v9= li sb/\v12= ac 0/\Af (uF w n tb sp sd v10 v11 W/\aq W sb 55 [sp,sd]/\w.heap.size<=sb))
 .clear HL HT HNP T2 B2 L2 P3 B3 Lp Hq xE H Hn n1 n0 tp NG;go_region_law (first
   |(go_simp;(go_at_call 35);(with_reducible refine(HP.o _ _ _ _ (amU W3 k m)).mono ?_);rintro e W5 ⟨A1,n1,c1,A2,n2,c2,wp,wd,rfl,hF,cz,jq⟩;have F5:=aa hF;have Z5:=aa cz;clear hF cz jq)
   |(go_simp;(go_at_call 35);(with_reducible refine(HP.o _ _ _ _ (amT W3 k m)).mono ?_);rintro e W5 ⟨A1,n1,c1,A2,n2,c2,wp,wd,rfl,hF,cz,jq⟩;have F5:=aa hF;have Z5:=aa cz;clear hF cz jq)
   |(go_simp;(go_at_call 35);(with_reducible refine(HP.o _ _ _ _ (ahH W3 k m)).mono ?_);rintro e W5 ⟨A1,n1,c1,A2,n2,c2,wp,wd,rfl,hF,cz,jq⟩;obtain⟨F5,Z5,S5⟩:=qC hF cz (jq _ rfl);have z0:=S5.p1.j0;have z1:=S5.p1.j1;have f0:=S5.p1.free 0;have f1:=S5.p1.free 1;clear hF cz jq)
   |(go_simp;(go_at_call 35);(with_reducible refine(HP.o _ _ _ _ (ahG W3 k m)).mono ?_);rintro e W5 ⟨A1,n1,c1,A2,n2,c2,wp,wd,rfl,hF,cz,jq⟩;obtain⟨F5,Z5,S5⟩:=qC hF cz (jq _ rfl);have z0:=S5.p1.j0;have z1:=S5.p1.j1;have f0:=S5.p1.free 0;have f1:=S5.p1.free 1;clear hF cz jq)
   |(go_simp;(go_at_call 35);(with_reducible refine(HP.o _ _ _ _ (ahF W3 k m)).mono ?_);rintro e W5 ⟨A1,n1,c1,A2,n2,c2,wp,wd,rfl,hF,cz,jq⟩;obtain⟨F5,Z5,S5⟩:=qC hF cz (jq _ rfl);have z0:=S5.p1.j0;have z1:=S5.p1.j1;have f0:=S5.p1.free 0;have f1:=S5.p1.free 1;clear hF cz jq)
   |(go_simp;(go_at_call 35);(with_reducible refine(HP.o _ _ _ _ (ahE W3 k m)).mono ?_);rintro e W5 ⟨A1,n1,c1,A2,n2,c2,wp,wd,rfl,hF,cz,jq⟩;obtain⟨F5,Z5,S5⟩:=qC hF cz (jq _ rfl);have z0:=S5.p1.j0;have z1:=S5.p1.j1;have f0:=S5.p1.free 0;have f1:=S5.p1.free 1;clear hF cz jq)
   |(go_simp;(go_at_call 35);(with_reducible refine(HP.o _ _ _ _ (ahD W3 k m)).mono ?_);rintro e W5 ⟨A1,n1,c1,A2,n2,c2,wp,wd,rfl,hF,cz,jq⟩;obtain⟨F5,Z5,S5⟩:=qC hF cz (jq _ rfl);have z0:=S5.p1.j0;have z1:=S5.p1.j1;have f0:=S5.p1.free 0;have f1:=S5.p1.free 1;clear hF cz jq)
   |(go_simp;(go_at_call 35);(with_reducible refine(HP.o _ _ _ _ (ahC W3 k m)).mono ?_);rintro e W5 ⟨A1,n1,c1,A2,n2,c2,wp,wd,rfl,hF,cz,jq⟩;obtain⟨F5,Z5,S5⟩:=qC hF cz (jq _ rfl);have z0:=S5.p1.j0;have z1:=S5.p1.j1;have f0:=S5.p1.free 0;have f1:=S5.p1.free 1;clear hF cz jq)
   |(go_simp;(go_at_call 30);(with_reducible refine(AJ.o _).mono ?_);rintro e W4 ⟨rfl,rfl⟩))
  all_goals go_wp2_with fail
  all_goals go_meet
  all_goals first
   |exact⟨_,_,_,rfl,rfl,F5.o.set S5.p1 S5.q1⟩
   |exact⟨_,_,_,rfl,rfl,F5.o.amS⟩
   |exact⟨_,_,_,rfl,rfl,F5.o.new⟩
 .obtain⟨sb,sp,sd,rfl,rfl,HF⟩:=hcut;obtain⟨A1,k1,hsp,-,-⟩:=HF.p1.sp.form;obtain⟨A2,k2,Eb,-,-⟩:=HF.p1.sd.form;subst hsp Eb;have Ya:=aa HF.p1;obtain⟨z0,z1⟩:=gh HF.p2;clear HP tp AJ Az Nf HL HT HNP P3 T2 B3;obtain⟨ok1,To,ok3,ok4⟩:=Hq.p1.x;have⟨nd,im⟩:=eX ((cZ n).au.length);have⟨np,ei⟩:=eX ((cZ n).ag.length);have Hl:=kH im ei (by rw[im,(Hq.p1.pl).2.2.2];exact(BE Hq.p1.n0 Hq.p2).2.2.2.1:nd<=2) (by rw[ei,(Hq.p1.pl).2.2.1];exact(BE Hq.p1.n0 Hq.p2).2.1:np<=70);rw[<-im] at z1 HF Ya;rw[<-ei] at z0 HF Ya;have⟨CX,hCX⟩:=eX (aP (zn n));have mn:Af (Calls prog 36 #[.agg #[ip 1,gc n,gc 0,gc 0,gc 0,gc 0,gc 0,gc 0,gc 0,gc 0,ip 0,ip 0,ip 0,ip 0,ip 0,ip 0,ip 0,ip 0],am A2 nd k2] wc (iF (.agg CX.toArray) λw' =>ci wc w')):=by rw[hCX];exact vA wc ⟨1,n,replicate 8 0,replicate 8 0⟩ ok3 _ (cZ n).au Ya.o.sd ok4 zde
  have HEx:Af (∀W,Calls prog 40 #[.agg CX.toArray] W (Made W (J7 (zn n)))):=λW=>by rw[hCX];exact RW W (zn n) ok1 To
  have HxB:=aa (GK ok1);have Tt:IntKind.u32.wrap (n:Int)=n:=ww
  have HB:Af (ci w wc/\aq wc sb 55 [am A1 np k1,am A2 nd k2]/\w.heap.size<=sb):=⟨Ya.o.low,HF.q1⟩;clear hCX ok1 To ok3 ok4 HF im ei;go_upto_region 9 with(first
   |(go_at_call 36;refine mn.o.mono ?_;rintro e W4 ⟨rfl,b4⟩;have B4:=aa b4;clear b4)
   |(go_at_call 40;refine(HEx.o _).mono ?_;rintro e W5 ⟨gx,pZ,rfl,o5,b5⟩;obtain⟨O5,B5,Gx⟩:=qC o5 b5 pZ;clear o5 b5 pZ))
  have B4' :=aa B4.o.size;obtain⟨F5,Us,S5⟩:=qC (Ya.o.on (Pd B4.o B5.o)) (Pd HB.p1 (Pd B4.o B5.o)) ((HB.p2.on B4.o).on B5.o);have⟨W6,jc⟩:=eX (W5.alloc (.cells (replicate 128 (io 0)).toArray 5));have⟨gz,hgz⟩:=eX W5.heap.size;have yX:(Instr.makeSlice 95 (ac 128) (ac 128)).run prog W5= .ok (el gz 0 128 128) W6:=by have:=eV (P:=prog) underlying95 rD (eC .u8 0) Fd 128 Fd W5;rw[jc,hgz];exact this
  have B6:Af (ci W5 W6):=zdr;have Z6:Af (dn W6 gz iy):=by have:aq W6 gz 5 (iy.map (.int .u8)):=(by rw[jc,hgz,show iy.map (Value.int .u8)=replicate 128 (io 0) from Qdg];exact ar _ _ _);exact this.JZ
  have Hgz:Af (w.heap.size<=gz):=by show _<=_;rw[hgz];exact Us.o.size
  have E2:Af (∀x,DS d pl x->x<w.heap.size):=λx hx=>by
   obtain e|e:=hx
   .rw[e];exact H.o.own.lt
   .rw[e];exact H.o.eP.lt
  have B06:=aa (Pd Us.o B6.o);have hzb:Bs W6 W6 (el gz 0 128 128) iy:=Z6.o.whole (by simp[iy]) (λx hx=>by unfold iy at hx;rw[QJ hx];exact⟨Fd,Fd⟩);have hza:Ap (DS d pl) (el gz 0 128 128):=jD λe=>XV.2 Hgz.o (E2.o gz e)
  have EK:=aa (nF W6 (DS d pl) d 0 _ iy hzb hza (λx hx=>Qn (E2.o x hx) B06.o.size));have tp:=aa (λ(W7:Wo) (hW:ci W6 W7)=>nF W7 (DS d pl) d 1 (el gz 0 128 128) iy ⟨(hzb.1.below hW).more hW.size,hzb.2⟩ hza (λx hx=>Qn (E2.o x hx) (Qh B06.o.size hW.size)));rw[show((0:Nat):Int)=(0:Int) from rfl] at EK;rw[show((1:Nat):Int)=(1:Int) from rfl] at tp;clear jc hgz hzb hza mn HEx B4 z0 z1 Ya;go_upto_region 11 with(first
   |((go_at_call 39;with_reducible refine EK.o.mono ?_);rintro e W7 ⟨fv0,rfl,s7,b7⟩;have S7:=aa s7;have B7:=aa b7;clear s7 b7)
   |((go_at_call 39;with_reducible refine(tp.o _ B7.o).mono ?_);rintro e W8 ⟨fv1,rfl,s8,b8⟩;have S8:=aa s8;have B8:=aa b8;clear s8 b8))
  have Ir:∀W,cB W (DS d pl) d (.func (.func 42) #[d] #[]) .fl:=λW=>rfl;have B68:=aa (Pd B7.o B8.o);have B08:=aa (Pd B06.o B68.o);have OS9:=aa (Ds (S7.o.on B8.o) S8.o (Ir W8) B08.o.size);have b9:=aF W8 (.cells #[fv0,fv1,.func (.func 42) #[d] #[]] 97);have hgs:W8.heap.size<(W8.alloc (.cells #[fv0,fv1,.func (.func 42) #[d] #[]] 97)).heap.size:=Sv
  have⟨W9,ED⟩:=eX (W8.alloc (.cells #[fv0,fv1,.func (.func 42) #[d] #[]] 97));rw[<-ED] at OS9 b9 hgs|-;have⟨gs,aa4⟩:=eX W8.heap.size;rw[<-aa4] at OS9 hgs|-;have Yk:=aa ((Pd B6.o B68.o).trans (b9.mono (Qh B6.o.size B68.o.size)));obtain⟨B09,F9,S9⟩:=qC (Pd Us.o Yk.o) (F5.o.on Yk.o) (S5.o.on Yk.o);have Hgs:=dK (by rw[aa4];exact B08.o.size:w.heap.size<=gs) hgs;obtain⟨z0,z1⟩:=gh S9.o;obtain⟨ug,mb',ht9⟩:=F9.o.fh;obtain⟨p1,p2,p3,p4⟩:=Hq.p1.pl;have cH:=BE Hq.p1.n0 Hq.p2;have EJ:=aa (KZ W9 (λx=>DS d pl x\/x=gs) d tb ug mb' (cZ n).t ht9 (λx hx=>by
    obtain e|e:=hx
    .exact Qn (E2.o x e) B09.o.size
    .rw[e];exact Hgs.q1) (am A1 np k1) (am A2 nd k2) u10 u11 (cZ n).ag (cZ n).au (gG (cZ n).pp) (gG (cZ n).pd) F9.o.sp F9.o.sd F9.o.wp F9.o.wd
    (by rw[<-Hl.p2];exact Qh Hl.q3 Fd) zde
    (Qh (oo _) (by rw[p1.lp,<-Hl.p2];exact Qh Hl.q3 Fd)) (Qh (oo _) (by rw[p1.ld,<-Hl.p1];exact Qh Hl.p3 Fd))
    (λx hx=>by have:=p1.rg x hx;rw[p2] at this;have:=Hq.p2;omega)
    (λi hi=>by have:=xK hi;rw[p1.lp] at this;refine⟨this,?_⟩;rw[p2];rw[p3] at this;omega)
    (λi hi=>by have:=xK hi;rw[p1.ld] at this;refine⟨this,?_⟩;rw[p3];rw[p4] at this;omega))
  clear ED aa4 b9 hgs p1 p2 p3 p4 cH ht9 EK tp;have⟨P,hP⟩:=eX (tR (cZ n).t (cZ n).ag (cZ n).au (gG (cZ n).pp) (gG (cZ n).pd));have HPl:Af (P.length<=200):=by show _<=_;obtain⟨p1,-,-,-⟩:=Hq.p1.pl;have l1:=oo (cZ n).pp;have l2:=oo (cZ n).pd;rw[p1.lp,<-Hl.p2] at l1;rw[p1.ld,<-Hl.p1] at l2;rw[hP];unfold tR;rw[Qo,Qq,Qq];exact Qh (Qcf (Qh l1 Hl.q3) (Qh l2 Hl.p3)) Fd
  have HPe:=aa hP;rw[<-hP] at EJ;have HX:Af (∀W v l,W.heap[gx]? =W9.heap[gx]?->W9.heap.size<=W.heap.size->eB W w (DS d pl) d v l->Calls prog 39 #[d,ac 1,el gx 0 128 128] W λe w' =>∃fv,e= .returned (.agg #[fv])/\cB w' (Iz (DS d pl) v.ownBlock) d fv (.wr 1 (J7 (zn n)))/\ci W w'):=by
   intro W v l hg hW ho;have hx9:=(O5.o.aQ (w' :=W9) (Yk.o.block gx O5.o.lt)).aQ (w' :=W) hg;refine nF W _ d 1 _ _ (hx9.whole HxB.p1 HxB.q1) (jD λe=> ?_) (eB.OC ho (λx hx=>Qn (E2.o x hx) (Qh B09.o.size hW)));obtain e|e:=e
   .have h1:=E2.o gx e;have h2:=Gx.o;have h3:=HB.p1.size;have h4:=B4'.o;exact XI _ (Qn h1 (Qh h3 (Qh h4 h2)))
   .exact dn.not_row hx9 Fd ho.1 e
  clear hP;go_upto_region 12 with(first
   |(go_at_call 41;refine EJ.o.mono ?_;rintro e uh ⟨vp,lp,rfl,op,Wt,wC⟩;obtain⟨Av,cv,rfl⟩:=op.bu;have QP1:=aa (Sl.bU op.1);have QP2:Af (∀p∈lp,cB uh (Iz (DS d pl) (el gs 0 3 3).ownBlock) d p.1 p.2):=(λp hp=>(op.2 p hp).set (λx hx hT=>hT.elim (λh=> .inl (.inl h)) (λh=> .inl (.inr (Qr h).symm))));obtain⟨HLp,oU,ag7⟩:=qC Wt wC (OS9.o.on wC);have za:Af (lp.length<=200):=(by show _<=_;have:=XF List.length Wt;rw[Qq] at this;rw[this];exact HPl.o);clear op Wt wC)
   |(at_builtin;(with_reducible refine wl_app_st (os:= .tmp 68) (ox:= .tmp 74) (base:=w.heap.size) (m:=lp) ag7.o QP1.o QP2.o ?_ ?_ ?_ ?_ ?_);((·have:=za.o;simp;omega);(·exact Qh B09.o.size oU.o.size);(·rfl);(·rfl);intro v11 MP Y9 g11;obtain⟨A11,n11,c11,rfl⟩:=Y9.form;obtain⟨O11,G11,tl⟩:=qC Y9 g11 (HX.o MP _ _ ((g11.block gx (Qn O5.o.lt (Qh Yk.o.size oU.o.size)) (λe=>dn.not_row ((O5.o.aQ (w' :=W9) (Yk.o.block gx O5.o.lt)).aQ (w' :=uh) (oU.o.block gx (Qn O5.o.lt Yk.o.size))) Fd ag7.p1 e.symm)).trans (oU.o.block gx (Qn O5.o.lt Yk.o.size))) (Qh oU.o.size g11.size) Y9);clear Y9 g11))
   |(go_at_call 39;refine tl.o.mono ?_;rintro e Bg ⟨fvx,rfl,s12,Be⟩;have S12:=aa s12;have Ur:=aa Be;have aa5:∀W,cB W (Iz (DS d pl) (Value.slice A11 n11 c11).ownBlock) d (.func (.func 42) #[d] #[]) .fl:=(λW=>rfl);have T13:=aa (FF (aa5 Bg) s12 (aa5 Bg));have O13:=aa ((O11.o.on Be).on (aF Bg (.cells #[.func (.func 42) #[d] #[],fvx,.func (.func 42) #[d] #[]] 97)));clear s12 Be aa5)
   |(at_builtin;(with_reducible refine wl_app_st (os:= .tmp 75) (ox:= .tmp 85) (base:=w.heap.size) O13.o T13.p1 T13.q1 ?_ ?_ ?_ ?_ ?_);(·have:=za.o;simp;omega);(·exact Qh B09.o.size (Qh oU.o.size (Qh G11.o.size (Qh Ur.o.size Sv))));(·rfl);(·rfl);intro v14 W14 o14 g14;have TZ:=aa o14;have G14:=aa g14;clear o14 g14))
  have L10:=Pd B09.o oU.o;have L11:=L10.grown G11.o L10.size (λj e=>by cases e;exact Hgs.p1);have L13:=(Pd L11 Ur.o).trans ((aF Bg (.cells #[.func (.func 42) #[d] #[],fvx,.func (.func 42) #[d] #[]] 97)).mono (Qh L11.size Ur.o.size));have L14:=aa (L13.grown G14.o L13.size (λj e=>(Xr O13.p1 j e).1));have an8:=aa (VI H.o Hn.o E2.o Hq.p1 L14.o TZ.o (by rw[QL,QL,HLp.o,HPe.o];rfl) (by have:=za.o;simp;omega));clear L10 L11 L13 HX EJ;go_wp2_with(go_at_call 43;refine an8.o.mono ?_;rintro e TX ⟨rfl,d15,c15⟩;have D15:=aa d15;have C15:=aa c15;clear d15 c15);go_ret;exact⟨rfl,D15.o,(aG.aZ L14.o).trans C15.o⟩
end
end Go.Proofs.YtjjomjobllcleaaGreat

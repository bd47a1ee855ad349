/- HashRoom, part 5 of 8: parts of its walks and laws, each true as it stands. -/
import Derived.Test.YtjjomjobllcleaaGreatTAD
set_option maxHeartbeats 16000000
set_option maxRecDepth 100000
set_option linter.all false
namespace Go.Proofs.YtjjomjobllcleaaGreat
open Go.Proofs.Tryz
open List (replicate range)
open Go.RowKit Go.Shelf
attribute [local go_sem] Oper.semAt_some
section
variable{k n:Nat}{l:List aM}{c:aM}
def xS(dep:Nat):∀(ae:List (Nat×Int)) (j:Nat) (s:Nat×Int),ae[j]? =some s->∀i,i<s.1->(uH dep ae)[aC ae j+i]? =some ⟨s.2,dep - s.1.log2,0⟩
 |[],_,_,h,_,_=>zaF
 |a::r,0,s,h,i,hi=>by
  simp at h;subst h;rw[uH,QH,qS,QR,QN zal,Zr,Xo hi]
 |a::r,j+1,s,h,i,hi=>by
  have ih:=xS dep r j s EQ i hi;have e:aC (a::r) (j+1)=a.1+aC r j:=by unfold aC;simp
  unfold uH at ih|-;rw[QH,e,QM (by rw[QK];omega),QK,<-ih];congr 1;omega
def cX(dep:Nat)(ae:List (Nat×Int)):(bc dep ae).length=256:=by simp[bc]
def G0{dep:Nat}{ae:List (Nat×Int)}{j i e:Nat}{s:Nat×Int}(hn:n<256)(hs:ae[j]? =some s)(hi:i<s.1)(he:s.1=2^e)(hq:n/2^(8 - dep)=aC ae j+i):(bc dep ae)[n]? =some ⟨s.2,dep - e,0⟩:=by rw[bc,Qt,Qam hn];show some ((uH dep ae).getD (n/2^(8 - dep)) _)=_;rw[hq,Qe,xS dep ae j s hs i hi,he,Nat.log2_two_pow];rfl
def BB:aM:=⟨0,0,0⟩
def qw(l:List aM)(k:Nat):List aM:=l.take k++replicate (256 - k) BB
def GN(l:List aM):qw l 0=replicate 256 BB:=rfl
def Ma(h:l.length=256):qw l 256=l:=by rw[qw,XE,Qcx,Zi,Qj (Xg h)]
def yK(h:l.length=256)(hk:k<256):(qw l k)[k]? =some BB:=by
 unfold qw;have hl:(l.take k).length=k:=by rw[Qu,h];omega
 rw[QM zbc,hl,XE,Zr,Xo Mx]
def LZ(h:l.length=256)(hk:k<256)(hc:l[k]? =some c):(qw l k).set k c=qw l (k+1):=by
 unfold qw;have hl:(l.take k).length=k:=by rw[Qu,h];omega
 rw[ZB _ _ zbc,hl,XE,aA l k c hc,QY,show 256 - k=(256 - (k+1))+1 by omega,Qcy];rfl
def KI(h:l[n]? =some c)(b:Int)(d q:Nat):(((ew l).set (n*3) (ac b)).set (n*3+1) (ac d)).set (n*3+2) (ac q)=ew (l.set n ⟨b,d,q⟩):=by have hn:=(Ql.1 h).1;have h1:(ew l).set (n*3) (ac b)=ew (l.set n {c with block:=b}):=nB l n c _ 0 _ h rfl Fd;rw[h1,nB (l.set n {c with block:=b}) n {c with block:=b} ⟨b,d,c.ao⟩ 1 _ (by rw[Qbc hn]) rfl Fd,Qel,nB (l.set n ⟨b,d,c.ao⟩) n ⟨b,d,c.ao⟩ ⟨b,d,q⟩ 2 _ (by rw[Qbc hn]) rfl Fd,Qel]
def KH:ew (replicate 256 BB)=replicate 768 (ac 0):=by refine List.eq_replicate_iff.2 ⟨by rw[eU,QK],λb hb=> ?_⟩;unfold ew at hb;obtain⟨c,hc,hb⟩:=QT.1 hb;rw[QJ hc] at hb;simp[ja,BB] at hb;exact hb
def PZ(l:List aM):∀u∈ew l,u.oneCell' =true:=by intro u hu;unfold ew at hu;obtain⟨c,-,hu⟩:=QT.1 hu;simp[ja] at hu;obtain rfl|rfl|rfl:=hu<;>rfl
def acd:(prog.info? 152).map (λi=>(i.zero,i.size))=some (some (.agg (replicate 768 (ac 0)).toArray),(replicate 768 (ac 0)).toArray.size):=KJ
def Fi:(prog.info? 152).map (·.size)=some 768:=KJ
structure aht(w:Wo)(l:List aM)(db rb ob:Nat)(dc:Ox)(k:Nat)(wr:Wo):Prop where
 own:aq wr ob 152 (ew (qw l k))
 res:aq wr rb 152 (List.replicate 768 (Value.int .i64 0))
 dir:aq wr db 66 dc
 low:Below w w wr
def G8(w:Wo)(dep:Nat)(ae:List (Nat×Int))(hs:eQ dep ae)(v:Va)(hv:Ns w w .u16 v (expand ae)):
  Calls prog 145 #[.agg #[io dep,v]] w (iF (.agg (ew (bc dep ae)).toArray) λw' =>ci w w') :=by
 have kO:0<(expand ae).length:=by rw[hs.sum];exact Qba _
 obtain⟨bd,od,cd,rfl,-,-,tF,aH⟩:=hv.cells kO;have⟨M,hM⟩:=eX ((expand ae).length);have TN:=hs.len;rw[<-hM] at TN|-;have⟨Z,hZ⟩:=eX ((replicate 768 (ac 0)).toArray);have HZi:Af ((prog.info? 152).map (λi=>(i.zero,i.size))=some (some (.agg Z),Z.size)):=by rw[hZ];exact acd
 have HZ0:Af (Tryz.zeroCells152=Z):=by show _=_;rw[hZ];kernel_rfl
 obtain⟨W0,aY,X0,B0⟩:=nW w [io dep,el bd od M cd] 66;have⟨W1,aW⟩:=eX (W0.alloc (.cells Z 152));have Y1:aq W1 W0 152 (replicate 768 (ac 0)):=by rw[aW,hZ];exact ar W0 _ _
 have B1:ci W0 W1:=zab;have⟨W2,cE⟩:=eX (W1.alloc (.cells Z 152));have Y2:aq W2 W1 152 (replicate 768 (ac 0)):=by rw[cE,hZ];exact ar W1 _ _
 have B2:ci W1 W2:=zdq;have⟨db,iU⟩:=eX w.heap.size;have⟨rb,ft⟩:=eX W0.heap.size;have⟨ob,Ty⟩:=eX W1.heap.size;have fI:=Pd B0 B1;have rj:Af (aht w (bc dep ae) db rb ob [io dep,el bd od M cd] 0 W2):=⟨by rw[GN,KH,Ty];exact Y2,by rw[ft];exact Y1.on B2,by rw[iU];exact(X0.on B1).on B2,Pd fI B2⟩;have fq:Af (w.heap.size<=db/\db<rb/\rb<ob):=⟨by rw[iU];exact go,by rw[iU,ft];exact X0.lt,by rw[ft,Ty];exact Y1.lt⟩;have HW:=Nv aY.symm aW.symm cE.symm iU.symm ft.symm Ty.symm;have AO:Ns w w .u16 (el bd od M cd) (expand ae):=by rw[hM];exact hv
 have HS:Af (eQ dep ae/\M=(expand ae).length/\M<=256/\bd<w.heap.size/\∀j,j<M->w.cell? (an bd (od+j))=some (pK ((expand ae).getD j 0))):=⟨hs,hM,TN,tF,by rw[hM];exact aH⟩;have⟨T,hT⟩:=eX ((ew (bc dep ae)).toArray);rw[<-hT];have⟨E,hE⟩:=eX (8 - dep);have e2:min E 64=E:=Zh Mx;have e3:=Xh E;have qc:=hs.d8;have e4:IntKind.i64.wrap (dep:Int)=dep:=UV;have e5:IntKind.i64.wrap (8 - (dep:Int))=E:=UV;have e6:wrap64 (8 - (dep:Int))=E:=vW;clear hs hv hM TN hZ aY X0 B0 aW Y1 B1 cE Y2 B2 fI iU ft Ty tF aH kO qc;change Af _ at AO hT hE;go_in;go_wp2_with(rw[HW.p1,HW.p4];refine wl_alloc_arr Z HZi.o ?_;rw[HW.p2,HW.p5]);rw[HZ0.o,HW.p3,HW.q5];go_loopw [8] (λiv wr=>∃k:Nat,iv= ac k/\Af (k<=256/\aht w (bc dep ae) db rb ob [io dep,el bd od M cd] k wr)) (λiv _=>256 - (intOf iv).toNat)
 .exact zfB
 .obtain⟨k,rfl,HR⟩:=hrel;by_cases hk:k<256
  .have⟨q,hq⟩:=eX (k/2^E);have hqM:q<M:=(by rw[HS.p2,HS.p1.sum,hq];refine(Qdk (Qba _)).2 ?_;rw[<-Qch,hE.o,show dep+(8 - dep)=8 by have:=HS.p1.d8;omega];exact hk);have q1:((k:Int)/2^E)=(q:Int):=(by rw[show((2:Int)^E)=((2^E:Nat):Int) from(Qdn 2 E).symm,<-Qdw,<-hq]);obtain⟨j,sg,i,lA,hi,Wk⟩:=lo ae q (by rw[<-HS.p2];exact hqM);obtain⟨e,he8,he,-⟩:=HS.p1.two j sg lA;have jq:=HS.p1.Ej sg (Qi lA);have⟨bk,ej⟩:=eX sg.2;have w4:IntKind.i64.wrap bk=bk:=(by rw[ej];exact qR ⟨Qca jq.1,jq.2⟩);have aU:=HR.q1.low;have tF:=HS.p4;have y0:wr.cell? (an bd (od+q))=some (pK bk):=(aU.cell (p:=an bd (od+q)) tF).trans (by rw[HS.q4 q hqM,Wk,Qe,eh ae j sg lA i hi,ej];rfl);have d0:wr.cell? db=some (io dep):=HR.q1.dir.cell rfl;have d1:wr.cell? (an db 1)=some (el bd od M cd):=HR.q1.dir.cell rfl;have HB:=nT wr dep ae HS.p1 (el bd od M cd) (Sl.more (Sl.below AO.o aU) aU.size) j i e sg lA hi he;rw[<-Wk] at HB;have⟨fj,hfj⟩:=eX (aC ae j);have⟨dk,hdk⟩:=eX (dep - e);rw[<-hfj,<-hdk] at HB;have HB:=aa HB;have HX:=dK hk (by rw[ej,hdk];exact G0 hk lA hi he (by rw[<-hE.o,<-hq];exact Wk):(bc dep ae)[k]? =some ⟨bk,dk,0⟩);have cU:=aa HR.q1;have bN:=HR.q1.own;have HF:Af (∀W,ci wr W->(W.cell? (an bd (od+q))=some (pK bk)/\W.cell? db=some (io dep)/\W.cell? (an db 1)=some (el bd od M cd))/\(W.cell? (an ob (k*3))=some (ac 0)/\W.cell? (an ob (k*3+1))=some (ac 0)/\W.cell? (an ob (k*3+2))=some (ac 0))/\W.frozen? (an ob (k*3))=false/\W.frozen? (an ob (k*3+1))=false/\W.frozen? (an ob (k*3+2))=false):=λW hW=>(by have o1:=cU.o.own.on hW;have z:=yK (cX dep ae) HX.p1;refine⟨⟨?_,(cU.o.dir.on hW).cell rfl,(cU.o.dir.on hW).cell rfl⟩,⟨o1.cell (iD _ k _ z 0 Fd),o1.cell (iD _ k _ z 1 Fd),o1.cell (iD _ k _ z 2 Fd)⟩,o1.free _,o1.free _,o1.free _⟩;exact(hW.cell (p:=an bd (od+q)) (Qn HS.p4 cU.o.low.size)).trans y0);have k0:=Xh k;have k1:(k:Int)<256:=Mx;have q0:=Xh q;have q2:(q:Int)<M:=Mx;have w1:wrap64 ((k:Int)+1)=(k:Int)+1:=vW;have Hw:=aa w1;clear hq hqM lA hi Wk he8 he jq ej aU tF hfj hdk HR bN hk w1;go_upto_region 6 with fail;go_upto_region 7 with(go_at_call 68;refine HB.o.mono ?_;rintro e W6 ⟨rfl,b6⟩;have f6:=HF.o W6 b6;have B6:=aa b6;clear b6)
   obtain⟨⟨g0,g1,g2⟩,⟨h0,h1,h2⟩,r0,r1,r2⟩:=f6;clear y0 d0 d1;go_wp2_with fail;refine⟨⟨k+1,zaf,HX.p1,?_⟩,In⟩;have o6:=(((cU.o.own.on B6.o).set (k*3) (ac bk)).set (k*3+1) (ac dk)).set (k*3+2) (ac 0);have hz:(((0:Nat):Int))=0:=rfl;rw[<-hz,KI (yK (cX dep ae) HX.p1),LZ (cX dep ae) HX.p1 HX.q1] at o6;have wU:=fq.o;have e1:=XO wU.2.2;have e2:=XO (Qfg wU.2.1 wU.2.2);have e3:=Qh wU.1 (QX (Qfg wU.2.1 wU.2.2));exact⟨o6,(((cU.o.res.on B6.o).az (p:=an ob (k*3)) (Xm e1) _).az (p:=an ob (k*3+1)) (Xm e1) _).az (p:=an ob (k*3+2)) (Xm e1) _,
    (((cU.o.dir.on B6.o).az (p:=an ob (k*3)) (Xm e2) _).az (p:=an ob (k*3+1)) (Xm e2) _).az (p:=an ob (k*3+2)) (Xm e2) _,
    (((Pd cU.o.low B6.o).setCell (p:=an ob (k*3)) e3 _).setCell (p:=an ob (k*3+1)) e3 _).setCell (p:=an ob (k*3+2)) e3 _⟩
  .have cH:=QE HR.p1 (QC hk);have cO:=HR.q1;rw[cH] at cO;have bN:=cO.own;rw[Ma (cX dep ae)] at bN;have hl:(ew (bc dep ae)).length=768:=by rw[eU,cX]
   have xF:=aa (fN (P:=prog) bN underlying152 zdD);have HSt:=aa (jo (P:=prog) (new:=ew (bc dep ae)) cO.res zdD (by rw[hl];simp) (PZ _));have oL:=lZ cO.res (ew (bc dep ae));have⟨W9,ED⟩:=eX (wr.setRow rb (ew (bc dep ae)).toArray);have aU:=below_setRow cO.low (Qh fq.p1 (QX fq.p2)) (ew (bc dep ae)).toArray;rw[<-ED] at HSt oL aU;have On:=aa (fN (P:=prog) oL underlying152 zdD);have NN:=aa aU;rw[<-hT.o] at xF HSt On;subst cH;clear HR hk cO bN hl oL ED aU;go_wp2_with(first
    |((with_reducible refine wl_load ob (.agg T) ?_ xF.o ?_);(·rfl))
    |((with_reducible refine wl_store rb (.agg T) ?_ ?_ HSt.o ?_);(·rfl);(·rfl)))
   exact zer
variable{base c g:Nat}{w:Wo}{l xs:Fr}{x:Int}
def Sw(tb:Nat):Va:= .func (.func 148) #[] #[tb]
structure sH(base:Nat)(W:Wo)(tb:Nat)(stay:Fr):Prop where
 lt:tb<base
 ex:∃A c,aq W tb 53 [.slice A stay.length c]/\Ns W base .i64 (.slice A stay.length c) stay
def sH.below{W W' :Wo}{tb:Nat}{stay:Fr}(h:sH base W tb stay)(hb:Below base W W'):sH base W' tb stay:=by obtain⟨A,c,h1,h2⟩:=h.ex;exact⟨h.lt,A,c,h1.aQ (hb.block tb h.lt),Ns.below h2 hb⟩
def j9(stay:Fr)(x:Int):Bool:= !(stay.contains x)
def qT(base:Nat)(w:Wo)(tb:Nat)(stay:Fr)(h:sH base w tb stay)(hl:stay.length<=100000)(x:Int):
  Calls prog 148 #[ac x,tb] w (iF (.bool (stay.contains x)) λw' =>w=w') :=by
 obtain⟨A,c,h1,h2⟩:=h.ex;have HC:=aa (oF w _ stay base h2 (Qh hl Fd) x);have z0:=h1.j0;have⟨R,hR⟩:=eX (stay.contains x);rw[<-hR] at HC|-;generalize stay.length=n at*;clear h h1 h2 hl hR;go_in;go_wp2_with(go_at_call 70;refine PP HC.o ?_);exact vl
def DH(base:Nat)(w:Wo)(v:Va)(l:Fr)(h:Ns w w .i64 v l)(hl:l.length<=100000)(tb:Nat)(stay:Fr)(hs:sH base w tb stay)(kr:stay.length<=100000):
  Calls prog 197 #[v,Sw tb] w λr w' =>((∃k:Nat,k<l.length/\r= .returned (ac k)/\(∃e,l[k]? =some e/\j9 stay e=false)/\(∀e∈l.take k,j9 stay e=true))\/r= .returned (ac (-1))/\(∀e∈l,j9 stay e=true))/\w=w' :=by
 obtain⟨A,c,rfl,-,-⟩:=h.form;have⟨n,hn⟩:=eX l.length;have H:=aa h;have HS:=aa hs;have Hn:=iJ hn (by omega:n<=100000) kr;rw[<-hn];unfold Sw;clear h hl hn hs kr;go_in;go_wp2_with fail;go_loop [8] (λiv=>∃k:Nat,k<=n/\iv= ac k/\Af (∀e∈l.take k,j9 stay e=true)) (λiv=>n - (intOf iv).toNat)
 .exact⟨0,lm,rfl,λe he=>zbs⟩
 .obtain⟨k,cH,rfl,HR⟩:=hrel;by_cases hk:k<n
  .have bQ:k<l.length:=(by rw[<-Hn.p1];exact hk);obtain⟨b,o,c',hv,-,-,bO,aH⟩:=H.o.cells (QO lm bQ);obtain rfl:A=some (an b o):=No;have z0:=aH k bQ;have⟨x,hx⟩:=eX (l.getD k 0);have oP:l[k]? =some x:=zag;rw[<-hx] at z0;have HO:=qT base w tb stay HS.o Hn.q2 x;have⟨R,hR⟩:=eX (stay.contains x);rw[<-hR] at HO;replace HO:=aa HO;have HX:=iJ oP hR hk;obtain⟨u1,u2,u3⟩:=bR hk Hn.p2 Fd;have Hu:=aa u1;clear hv bO aH hx oP hR hk bQ u1 cH;cases R
   .go_wp2_with(go_at_call 148;refine HO.o.mono ?_;rintro e W2 ⟨rfl,rfl⟩);refine⟨⟨k+1,HX.q2,yL,λe he=> ?_⟩,So⟩;rw[aA l k x HX.p1] at he;obtain he|he:=Qz.1 he
    .exact HR.o e he
    .rw[Qx.1 he];unfold j9;rw[<-HX.p2];rfl
   .go_wp2_with(go_at_call 148;refine HO.o.mono ?_;rintro e W2 ⟨rfl,rfl⟩);(all_goals(try rw[Qv]));(all_goals go_ret);all_goals exact⟨.inl ⟨k,HX.q2,rfl,⟨x,HX.p1,by unfold j9;rw[<-HX.p2];rfl⟩,HR.o⟩,rfl⟩
  .have agx:=QE cH (QC hk);have bm:=HR.o;rw[Qj (by rw[agx,Hn.p1];exact go)] at bm;have HA:=aa bm;subst agx;clear hk bm HR cH;go_wp2_with fail;(try rw[Qv]);go_ret;exact⟨.inr ⟨rfl,HA.o⟩,rfl⟩
def Rh(h:aB w base 3 .i64 (el g 0 n c) xs)(hn:n=xs.length)(i:Nat)(hi:i<=n):aB w base 3 .i64 (el g 0 i c) (xs.take i):=by unfold aB at h|-;rw[<-hn] at h;have:=Je h i hi;rw[Qci,<-Qcn] at this;rw[Qu,Zh Mx];exact this
def Cp(h:aB w base 3 .i64 (el g 0 n c) xs)(i:Nat)(x:Int):aB (w.setCell (an g i) (ac x)) base 3 .i64 (el g 0 n c) (xs.set i x):=by
 have hn:n=xs.length:=by
  rcases h.2 with⟨h2,_⟩|⟨g',cap,cur,h2,_⟩
  .cases h2
  .injection h2
 subst hn;unfold aB at h|-;rw[Zy,Qem];exact zfV h i _
def abU{v:Va}(h:aB w base 3 .i64 v l)(hl:0<l.length):∃g c,v= el g 0 l.length c/\base<=g/\g<w/\l.length<=c:=by
 have h' :=h;have hx:∃g c,v= el g 0 l.length c:=by unfold aB at h';exact zey
 obtain⟨g,c,rfl⟩:=hx;have h2:=Xr h g rfl;refine⟨g,c,rfl,h2.1,h2.2,?_⟩;obtain⟨-,⟨h3,_⟩|⟨g',cap,cur,h3,_,_,h4,_⟩⟩:=h
 .cases h3
 .cases h3;exact h4
def GW(h:aB w base 3 .i64 (el g 0 n c) xs)(hn:n=xs.length)(i:Nat)(hi:i<=n)(c' :Nat)(ty:Fy):
  ∃w',(Builtin.clear_ #[53] ty #[el g i (n - i) c']).run prog w= .ok (.tuple #[]) w'/\aB w' base 3 .i64 (el g 0 i c) (xs.take i)/\w.grownBy w' (some g):=by
 obtain he|aJ:=Nat.eq_or_lt_of_le hi
 .subst he;refine⟨w,?_,Rh h hn i go,⟨rfl,rfl,rfl,go,λ_ _ _=>rfl⟩⟩;rw[XE];simp[Builtin.clear_,Qax underlying53]
 .have h0:=h;unfold aB at h;rw[<-hn] at h;obtain⟨hl,h1⟩:=h;rcases h1 with⟨h2,_⟩|⟨g',cap,cur,h2,hb,hh,yW,hm,hs,ht⟩
  .cases h2
  .cases h2;have JC:(Builtin.zeroCells #[ac 0] (n - i)).toList.length=(n - i)*1:=(by simp[Builtin.zeroCells]);have mM:∀v∈(Builtin.zeroCells #[ac 0] (n - i)).toList,v.oneCell' =true:=(by intro v hv;simp[Builtin.zeroCells] at hv;obtain⟨q,-,rfl⟩:=hv;rw[Nat.mod_one];rfl);generalize hZ:(Builtin.zeroCells #[ac 0] (n - i)).toList=Z at*;rw[Qci] at hs;have cz:i+0+Z.length<=cur.size:=(by rw[JC,hs];omega);have cO:=Qhu (P:=prog) g i 3 Z 0 cur w hh cz mM;simp only[XC] at cO;have hh' :=Qha w g cur (cur.toList.take i++Z++cur.toList.drop (i+Z.length)).toArray _ _ hh;refine⟨w.setRow g (cur.toList.take i++Z++cur.toList.drop (i+Z.length)).toArray,?_,?_,⟨rfl,rfl,rfl,?_,λk _ hk=>Qhw w g k _ (λe=>hk zbl)⟩⟩
   .obtain⟨m,Nf⟩:∃m,n - i=m+1:=⟨n - i - 1,Mx⟩;have hzv:∀w,(zeroValue 3).run prog w= .ok (ac 0) w:=λw=>(by kernel_rfl);rw[Nf] at hZ|-;simp[Builtin.clear_,Qax underlying53,hzv,show(ac 0).cells= #[ac 0] from rfl,hZ,cO]
   .have oJ:(xs.take i).length=i:=(by rw[Qu];omega);rw[aB,oJ,Qcn,<-ht];have iH:i<=cur.toList.length:=(by rw[Qdz,hs];omega);refine⟨?_,.inr ⟨g,c,_,rfl,hb,hh',Mx,hm,?_,?_⟩⟩
    .rw[Qds,Qu,Qdz,hs,Qci];omega
    .rw[QW,Qo,Qo,Qu,Zt,Qdz,hs,JC];omega
    .rw[Qci,QY,Qde zcK,Qds,Nat.min_self,Qds,Zh Mx]
   .exact zfK
def vN(p:Int->Bool):∀l:List Int,(¬∀e∈l,p e=true)->∃k x,l[k]? =some x/\p x=false/\∀e∈l.take k,p e=true
 |[],h=>absurd (λe he=>zbs) h
 |a::r,h=>by
  cases ha:p a with
  |false=>exact⟨0,a,rfl,ha,λe he=>zbs⟩
  |true=>
   obtain⟨k,x,h1,h2,h3⟩:=vN p r (λh4=>h (λe he=>by
    obtain rfl|he:=QA.1 he
    .exact ha
    .exact h4 e he))
   refine⟨k+1,x,h1,h2,λe he=> ?_⟩;rw[Zw] at he;obtain rfl|he:=QA.1 he
   .exact ha
   .exact h3 e he
def GG{p:Int->Bool}{k k' :Nat}{x' :Int}(h1:l[k]? =some x)(h2:p x=false)(h3:∀e∈l.take k,p e=true)(g1:l[k']? =some x')(g2:p x' =false)(g3:∀e∈l.take k',p e=true):k=k' :=by
 obtain h|h|h:=Qbt k k'
 .exact zfd
 .exact h
 .exact zfb
def we{es:Fr}{i:Nat}(h:i<es.length):(es.set i x).take (i+1)=es.take i++[x]:=by rw[aA (es.set i x) i x (by rw[Qbl];simp[h]),Qet];congr 1;rw[Qiv];rw[Qu];omega
structure UY(base g n c tb:Nat)(stay l:Fr)(w:Wo)(j i:Nat)(wr:Wo):Prop where
 jn:j<=n
 ij:i<=j
 row:∃oT,aB wr base 3 .i64 (.slice (some ⟨g,0,none⟩) n c) oT/\oT.length=n/\oT.take i=(l.take j).filter (j9 stay)/\oT.drop j=l.drop j
 st:sH base wr tb stay
 low:Below base w wr
 sz:base<=wr
def zZ(w:Wo)(base:Nat)(v:Va)(l:Fr)(h:aB w base 3 .i64 v l)(jr:base<=w)(hl:l.length<=100000)(tb:Nat)(stay:Fr)(hs:sH base w tb stay)(kr:stay.length<=100000):
  Calls prog 147 #[v,Sw tb] w λr w' =>∃v',r= .returned v'/\aB w' base 3 .i64 v' (l.filter (j9 stay))/\Below base w w' :=by
 have hI:=DH base w v l h.ns hl tb stay hs kr;have HS:=aa hs;have HH:=aa h;obtain⟨A,c,hv,-,-⟩:=Ns.form h.ns;have⟨n,hn⟩:=eX l.length;rw[<-hn] at hv;have Hn:=kH hn (by omega:n<=100000) jr kr;subst hv;by_cases bm:∀e∈l,j9 stay e=true
 .have HI:Af (Calls prog 197 #[am A n c,Sw tb] w (iF (ac (-1)) λw' =>w=w')):=hI.mono λr w' ⟨h1,h2⟩=>by
   rcases h1 with⟨k,hk,h3,⟨e,h4,h5⟩,-⟩|⟨h3,h4⟩
   .rw[bm e (Qi h4)] at h5;cases h5
   .exact⟨h3,h2⟩
  have HF:=aa (List.filter_eq_self.2 bm);unfold Sw at HI|-;clear h hl hs hn jr hI bm kr;go_in;go_wp2_with(go_at_call 197;refine PP HI.o ?_);try rw[Qv]
  go_ret;exact⟨_,rfl,by rw[HF.o];exact HH.o,pi⟩
 .obtain⟨k,x,h1,h2,h3⟩:=vN _ l bm;have bQ:=(Ql.1 h1).1;obtain⟨g,c',hv,Np,hgw,ZP⟩:=abU h (QO lm bQ);rw[<-hn] at hv ZP;obtain⟨rfl,rfl⟩:A=some (ol g)/\c=c' :=by injection hv with e1 _ e3;exact⟨e1,e3⟩
  have HI:Af (Calls prog 197 #[el g 0 n c,Sw tb] w (iF (ac k) λw' =>w=w')):=hI.mono λr w' ⟨q1,q2⟩=>by
   rcases q1 with⟨k',hk,q3,⟨e,q4,q5⟩,q6⟩|⟨q3,q4⟩
   .rw[GG h1 h2 h3 q4 q5 q6];exact⟨q3,q2⟩
   .exact absurd q4 bm
  have TE:(l.take (k+1)).filter (j9 stay)=l.take k:=zbg;have rj:Af (UY base g n c tb stay l w (k+1) k w):=
   ⟨by rw[Hn.p1];exact bQ,Q0 k,⟨l,h,hn.symm,TE.symm,rfl⟩,hs,pi,jr⟩
  have Hg:=iJ Np ZP (by rw[hn];exact bQ:k<n);have k0:((k:Int)== -1)=false:=Xc Mx;have k9:k<=100000:=by rw[<-hn] at bQ;omega
  have kw:IntKind.i64.wrap ((k:Int)+1)=(k:Int)+1:=UV;unfold Sw at HI|-;clear h hl hs hn jr hI bm h1 h2 h3 bQ hv Np hgw ZP TE k9 kr;go_in;go_wp2_with(go_at_call 197;refine PP HI.o ?_);clear k0 kw HI HH;go_loopw [6,5] (λjv iv wr=>∃j i:Nat,jv= ac j/\iv= ac i/\Af (UY base g n c tb stay l w j i wr)) (λjv _ _=>n - (intOf jv).toNat)
  .exact⟨k+1,k,by rw[Int.natCast_succ],rfl,rj.o⟩
  .obtain⟨j,i,rfl,rfl,HD⟩:=hrel;by_cases hj:j<n
   .obtain⟨oT,r1,r2,r3,r4⟩:=HD.o.row;obtain⟨y,hy⟩:∃y,l[j]? =some y:=⟨_,Qf (by rw[<-Hn.p1];exact hj)⟩;have hy' :oT[j]? =some y:=(by have q1:=XF (λz=>z[0]?) r4;simpa[Zb,hy] using q1);obtain⟨b9,o9,c9,Ea,-,-,l9,Nb⟩:=r1.ns.cells (by rw[r2];omega);obtain⟨e1,e2⟩:g=b9/\0=o9:=zaj;subst e1 e2;have z0:jp wr g j (ac y):=(by have q1:=Nb j (by rw[r2];exact hj);rw[QR,Qe,hy'] at q1;exact q1);have zi:∃u,jp wr g i u:=(by have q1:=Nb i (by rw[r2];exact QO HD.o.ij hj);rw[QR] at q1;exact⟨_,q1⟩);obtain⟨ui,zi⟩:=zi;have fi:=jN r1 i;have HO:=qT base wr tb stay HD.o.st Hn.q3 y;have⟨R,hR⟩:=eX (stay.contains y);rw[<-hR] at HO;replace HO:=aa HO;have hRp:j9 stay y= !R:=(by rw[hR];rfl);have NQ:=aa HD.o;have jh:=kH r1 r2 r3 r4;have HX:=kH hy hRp hj HD.o.ij;obtain⟨u1,u2,u3⟩:=bR hj Hn.p2 Fd;have Hu:=aa u1;have i0:=Xh i;have iN:(i:Int)<n:=(by have:=HD.o.ij;omega);have iw:IntKind.i64.wrap ((i:Int)+1)=(i:Int)+1:=zbQ;clear r1 r2 r3 r4 hy hy' Nb Ea hR hRp HD hj u1 l9;go_upto_region 8 with fail
    cases R
    .have hM:UY base g n c tb stay l w (j+1) (i+1) (rc wr g i (ac y)):=by
      have hil:i<oT.length:=(by rw[jh.p2];exact QO HX.q3 HX.p3);refine⟨HX.p3,Qdc HX.q3,⟨oT.set i y,Cp jh.p1 i y,by rw[Zy];exact jh.p2,?_,?_⟩,NQ.o.st.below ((Xj base wr).setCell (p:=an g i) Hg.p1 _),NQ.o.low.setCell (p:=an g i) Hg.p1 _,?_⟩
      .rw[we hil,jh.p3,aA l j y HX.p1,Qbh];simp[HX.p2]
      .rw[Qfa (by have:=HX.q3;omega),<-Qav,jh.q3,Qav]
      .rw[Qhn];exact NQ.o.sz
     have HM:=aa hM;clear hM;go_wp2_with(go_at_call 148;refine PP HO.o ?_);exact⟨⟨j+1,i+1,yL,zbv,HM.o⟩,zax⟩
    .have hN:UY base g n c tb stay l w (j+1) i wr:=by
      refine⟨HX.p3,XK HX.q3,⟨oT,jh.p1,jh.p2,?_,?_⟩,NQ.o.st,NQ.o.low,NQ.o.sz⟩
      .rw[jh.p3,aA l j y HX.p1,Qbh];simp[HX.p2]
      .rw[<-Qav,jh.q3,Qav]
     have HN:=aa hN;clear hN;go_wp2_with(go_at_call 148;refine PP HO.o ?_);exact⟨⟨j+1,i,yL,rfl,HN.o⟩,zax⟩
   .have tC:=QE HD.o.jn (QC hj);obtain⟨oT,r1,r2,r3,r4⟩:=HD.o.row;have ph:i<=n:=(by rw[<-tC];exact HD.o.ij);obtain⟨w6,ZK,h6,g6⟩:=GW r1 r2.symm i ph (c - i) 0;have zm:oT.take i=l.filter (j9 stay):=zcE;have HL:=aa HD.o.low;have Hgr:=aa HD.o.sz;have i0:=Xh i;have iN:=Int.ofNat_le.2 ph;have nc:=Int.ofNat_le.2 Hg.p2;have ic:=Int.le_trans iN nc;subst tC;clear HD hj r1 r2 r3 r4;change Af _ at zm h6 g6;have mZ:=dK (by rw[<-zm.o];exact h6.o:aB w6 base 3 .i64 (el g 0 i c) (l.filter (j9 stay))) (HL.o.grown g6.o Hgr.o (λj e=>by cases(Qr e);exact Hg.p1));by_cases hci:c=i
    .have wJ:=QE ph (by rw[<-hci];exact Hg.p2);subst wJ;rw[XE] at ZK;have oI:∀(A:GB) (q:Nat),(Builtin.clear_ #[53] 0 #[am A 0 q]).run prog wr= .ok (.tuple #[]) wr:=λA q=>(by cases A<;>simp[Builtin.clear_,Qax underlying53]);have hw6:w6=wr:=(by have h1:=ZK;rw[oI] at h1;injection h1 with _ h1;exact h1.symm);subst hw6;have mM:=oI (some (ol g)) 0;subst hci;clear oI ZK;go_wp2;(try rw[Qv]);exact zeZ
    .go_wp2;(try rw[Qv]);exact zeZ
variable{c:ak}{B b e sz tb j db pb dep:Nat}{ao gone:List ak}{W' w' W:Wo}{tZ v sv pv gv:Va}{at_ sl pl gl:Fr}{xs dc:Ox}{P:ST}{ops:LC}{Q:Mp}{a:Act}{rest:List Oper}{dst:Option Tmp}{x:Operand}{t ty:Fy}{pos:String}{after:Array Edge}{cells:List aM}
def pE:List Va:=[.int .u8 0,(),(),()]
def Pn:(prog.info? 154).map (·.zero)=some (some (.agg (replicate 768 (ac 0)++pE).toArray)):=KJ
def G9(W:Wo)(cs:Ox)(h:cs.length=768):(Instr.build 154 #[(0,.agg cs.toArray)]).run prog W= .ok (.agg (cs++pE).toArray) W:=by
 refine run_build W _ _ _ ?_;unfold Program.built;cases hq:prog.info? 154 with
 |none=>have:=Pn;rw[hq] at this;cases this
 |some it=>
  have hz:it.zero=some (.agg (replicate 768 (ac 0)++pE).toArray):=by have:=Pn;rw[hq] at this;exact zdO
  obtain⟨F,hF⟩:∃F,prog.underlying 154=some (.struct F):=⟨_,underlying154⟩;have hm:∃pl,(F.toList.mapM λf=>(prog.info? f.type).map λi=>(f.offset,i.size))=some pl/\pl.toArray[0]? =some (0,768):=by have TO:=underlying154;rw[hF] at TO;injection TO with TO;injection TO with TO;subst TO;exact⟨[(0,768),(768,2),(770,1),(771,1)],KJ,rfl⟩
  obtain⟨pl,hm,h0⟩:=hm;rw[hF];simp only[hz,hm];show Instr.fill _ _ [(0,.agg cs.toArray)]=_;unfold Instr.fill;simp only[h0];have cz:(Value.agg cs.toArray).cells.size=768:=by show cs.toArray.size=768;simpa using h
  have Uz:(Value.agg (replicate 768 (ac 0)++pE).toArray).cells.size=772:=by show(replicate 768 (ac 0)++pE).toArray.size=772;simp[pE]
  rw[Xd (by rw[cz,Uz];decide)];show some _=some _;congr 1;have⟨Zc,hZc⟩:=eX ((replicate 768 (ac 0)++pE).toArray);have h1:=vf cs 0 Zc (by rw[hZc,h];simp);rw[Zq,QZ,h,hZc] at h1;apply Qev;refine Qgg ?_ (h1.trans ?_)
  .rw[<-Array.foldl_toList,Array.toList_zipIdx];rfl
  .rw[Qeq Sv];simp
section
def wl_build1(v r:Va)(hx:a.eval x=v)(h:(Instr.build t #[(j,v)]).run P w= .ok r w)(hk:wpList P ops Q rest (a.put dst r) w):
  wpList P ops Q (⟨dst,.build t #[(j,x)],ty,pos,after,none⟩::rest) a w:=
 Qbi rfl λK hK=>by unfold Oper.wp;rw[<-hx] at h;exact zfj
end
def eA(cells:List aM)(i:Nat)(c:ak)(n:Nat):List aM:=cells.mapIdx λm x=>if m<n/\bY c.ax c.depth m=true then⟨c.blocks.getD 0 0,c.depth,i+1⟩ else x
def Mg(cells:List aM)(i:Nat)(c:ak)(n:Nat):(eA cells i c n).length=cells.length:=by simp[eA]
def GU(cells:List aM)(i:Nat)(c:ak):eA cells i c 0=cells:=by refine Qal λm=> ?_;rw[eA,Zp];cases cells[m]? <;>simp
def Mh{cells:List aM}(h:cells.length=256)(i:Nat)(c:ak):eA cells i c 256=fE cells i c:=by
 refine Qal λm=> ?_;unfold eA fE;rw[Zp,Zp];by_cases hm:m<256
 .cases cells[m]? <;>simp[hm]
 .rw[QQ Mx];rfl
def GV{cells:List aM}{i:Nat}{x:aM}(hx:cells[n]? =some x):(eA cells i c n)[n]? =some x/\eA cells i c (n+1)=if bY c.ax c.depth n=true then(eA cells i c n).set n ⟨c.blocks.getD 0 0,c.depth,i+1⟩ else eA cells i c n:=by
 have hn:=(Ql.1 hx).1;constructor
 .unfold eA;rw[Zp,hx];simp
 .refine Qal λm=> ?_;by_cases hm:m=n
  .subst hm;by_cases hi:bY c.ax c.depth m=true
   .rw[Xo hi,Qbc (by rw[Mg];exact hn)];unfold eA;rw[Zp,hx];simp[hi]
   .rw[Xd hi];unfold eA;rw[Zp,Zp];simp[hi]
  .have h1:(if bY c.ax c.depth n=true then(eA cells i c n).set n ⟨c.blocks.getD 0 0,c.depth,i+1⟩ else eA cells i c n)[m]? =(eA cells i c n)[m]? :=by
    split
    .rw[Qct (Xm hm)]
    .rfl
   rw[h1];unfold eA;rw[Zp,Zp];have h2:(m<n+1)↔(m<n):=Mx;simp only[h2]
def jt(cells:List aM):∀(l:List ak) (i:Nat),(foldI fE i l cells).length=cells.length:=by
 intro l;induction l generalizing cells with
 |nil=>intro i;rfl
 |cons c r ih=>
  intro i;show(foldI fE (i+1) r (fE cells i c)).length=_;rw[ih];simp[fE]
def GS{cells:List aM}(h:ao[k]? =some c):cJ cells (ao.take (k+1))=fE (cJ cells (ao.take k)) k c:=lW _ _ _ _ h _
structure iQ(w:Wo)(db tb pb:Nat)(dc:Ox)(stay:Fr)(cells:List aM)(dep:Nat)(sv pv gv:Va)(gl:Fr)(W:Wo):Prop where
 own:aq W pb 154 (di cells dep sv pv gv)
 dir:aq W db 66 dc
 st:∃A c,aq W tb 53 [.slice A stay.length c]/\Ns W (tb+1) .i64 (.slice A stay.length c) stay/\Ap (λx=>x<=pb) (.slice A stay.length c)
 gn:aB W w 3 .i64 gv gl
 low:Below w w W
 lb:w<=db/\db<pb/\pb<tb/\tb<W
 ne:∀b,gv.ownBlock=some b->b≠db/\b≠pb/\tb<b
def iQ.on{w:Wo}{db pb:Nat}{dc:Ox}{stay:Fr}{cells:List aM}{dep:Nat}{sv pv gv:Va}{gl:Fr}{W:Wo}(h:iQ w db tb pb dc stay cells dep sv pv gv gl W)(hb:ci W W'):iQ w db tb pb dc stay cells dep sv pv gv gl W' :=
 ⟨h.own.on hb,h.dir.on hb,(by obtain⟨A,c,h1,h2,h3⟩:=h.st;exact⟨A,c,h1.on hb,Ns.below h2 (hb.mono h.lb.2.2.2),h3⟩),aB.on h.gn hb,Pd h.low hb,⟨h.lb.1,h.lb.2.1,h.lb.2.2.1,Qn h.lb.2.2.2 hb.size⟩,h.ne⟩
def iQ.stay{w:Wo}{db pb:Nat}{dc:Ox}{stay:Fr}{cells:List aM}{dep:Nat}{sv pv gv:Va}{gl:Fr}{W:Wo}(h:iQ w db tb pb dc stay cells dep sv pv gv gl W)(hb:tb+1<=base):sH base W tb stay:=by obtain⟨A,c,h1,h2,-⟩:=h.st;exact⟨hb,A,c,h1,h2.more hb⟩
def iQ.set{w:Wo}{db pb:Nat}{dc:Ox}{stay:Fr}{cells uS :List aM}{dep Of :Nat}{sv pv gv pv' TQ :Va}{gl:Fr}{W:Wo}(h:iQ w db tb pb dc stay cells dep sv pv gv gl W)(j:Nat)(u:Va)(he:(di cells dep sv pv gv).set j u=di uS Of tZ pv' TQ)(hg:TQ =gv):
  iQ w db tb pb dc stay uS Of tZ pv' TQ gl (W.setCell (an pb j) u):=by
 subst hg;have o:=h.own.set j u;rw[he] at o;obtain⟨A,c,h1,h2,h3⟩:=h.st;refine⟨o,h.dir.az (p:=an pb j) (XP h.lb.2.1) u,⟨A,c,h1.az (p:=an pb j) (XO h.lb.2.2.1) u,?_,h3⟩,aB.aT h.gn h.own Fd j u,h.low.setCell (p:=an pb j) (Qh h.lb.1 (QX h.lb.2.1)) u,⟨h.lb.1,h.lb.2.1,h.lb.2.2.1,by rw[Qhn];exact h.lb.2.2.2⟩,h.ne⟩;refine Sl.aL h2 (S:=λx=>x=pb) ((aG.refl (λx=>x=pb) W).setCell (p:=an pb j) (λ_=>rfl) u) h.lb.2.2.2 (h3.mono λx hx=>Xg hx)
def iQ.app{w:Wo}{db pb:Nat}{dc:Ox}{stay:Fr}{cells:List aM}{dep:Nat}{sv pv gv:Va}{gl:Fr}{W:Wo}(h:iQ w db tb pb dc stay cells dep sv pv gv gl W)(hl:cells.length=256)(vy:Va)(ys:Fr)(hy:Ns W B .i64 vy ys)(hn:gl.length+ys.length<=1000000)(ty:Fy):
  ∃v' W',(Builtin.append_ #[53,53] ty #[gv,vy]).run prog W= .ok v' W'/\(∃A n c,v' = am A n c)/\jp W' pb 771 gv/\W'.frozen? (an pb 771)=false/\iQ w db tb pb dc stay cells dep sv pv v' (gl++ys) (W'.setCell (an pb 771) v')/\W.grownBy W' gv.ownBlock/\(v'.ownBlock=gv.ownBlock\/v'.ownBlock=some W):=by
 obtain⟨v',W',r,o,g,e⟩:=cy (P:=prog) W w 53 ty 3 (ac 0) 1 8 underlying53 iE rfl Fd gv gl.length _ h.gn vy ys.length _ hy (dW .i64 ys) Do Mx h.low.size;have o2:aB W' w 3 .i64 v' (gl++ys):=by rw[aB,Qo,QL];exact o
 have bT:=h.ne;have n1:some pb≠gv.ownBlock:=λe=>(bT pb e.symm).2.1 rfl;have n2:some db≠gv.ownBlock:=λe=>(bT db e.symm).1 rfl;have n3:some tb≠gv.ownBlock:=λe=>absurd (bT tb e.symm).2.2 (XI _);have own:=h.own.grown g n1;obtain⟨A,c,s1,s2,s3⟩:=h.st;have b1:=(Xj (tb+1) W).grown g (by have:=h.lb.2.2.2;omega) (λj e=>(bT j e).2.2);refine⟨v',W',r,o2.bu,own.cell (bq hl 3),own.free 771,?_,g,e⟩;have hb:∀b,v'.ownBlock=some b->b≠db/\b≠pb/\tb<b:=λb hb=>by
  obtain e|e:=e
  .exact bT b (e▸hb)
  .rw[e] at hb;have hb:=Qr hb;have:=h.lb;exact⟨Mx,Mx,Mx⟩
 have k:iQ w db tb pb dc stay cells dep sv pv v' (gl++ys) (rc W' pb 771 v'):=by have o3:=own.set 771 v';rw[show(771:Nat)=768+3 from rfl,fC hl 3 v'] at o3;refine⟨o3,(h.dir.grown g n2).az (p:=an pb 771) (XP h.lb.2.1) v',⟨A,c,(s1.grown g n3).az (p:=an pb 771) (XO h.lb.2.2.1) v',?_,s3⟩,aB.aT o2 own Fd 771 v',((h.low.grown g h.low.size (λj e=>Qh h.lb.1 (QX (Qfg h.lb.2.1 (Qfg h.lb.2.2.1 (bT j e).2.2)))))).setCell (p:=an pb 771) (Qh h.lb.1 (QX h.lb.2.1)) v',⟨h.lb.1,h.lb.2.1,h.lb.2.2.1,by rw[Qhn];exact Qn h.lb.2.2.2 g.size⟩,hb⟩;exact Sl.aL (Ns.below s2 b1) (S:=λx=>x=pb) ((aG.refl (λx=>x=pb) W').setCell (p:=an pb 771) (λ_=>rfl) v') (Qn h.lb.2.2.2 g.size) (s3.mono λx hx=>Xg hx)
 exact k
def Gt(h:gone[k]? =some c):iY (gone.take (k+1)) ao=iY (gone.take k) ao++c.blocks.filter (j9 (dD ao)):=by rw[iY,aA gone k c h,QP,Qan];rfl
def zF(ag:Fr):∀(l:Fr) (i:Nat) (g:Fr),(foldI (dA ag) i l g).length<=g.length+l.length
 |[],_,_=>go
 |x::r,i,g=>by
  have h:=zF ag r (i+1) (dA ag g i x);have h2:(dA ag g i x).length<=g.length+1:=by
   unfold dA;split
   .simp
   .exact Q0 _
  show(foldI (dA ag) (i+1) r (dA ag g i x)).length<=_;rw[QF];omega
def rW(h:∀c∈gone,ru c):(iY gone ao).length<=gone.length*4096:=by
 unfold iY;induction gone with
 |nil=>simp
 |cons c r ih=>
  rw[QH,Qo,QF,Qfs,Nat.one_mul];have h1:=ih (λx hx=>h x (Qs _ hx));have h2:=Qh (Qby (λx=> !(dD ao).contains x) c.blocks) (h c Qm).y7;omega
def wl_index1{P:ST}{ops:LC}{w:Wo}{Q:Mp}{a:Act}{rest:List Oper}{dst:Option Tmp}{x ix:Operand}{t ty:Fy}{pos:String}{after:Array Edge}(v i r:Va)(hx:a.eval x=v)(hi:a.eval ix=i)(h:(Instr.index t v i).run P w= .ok r w)(hk:wpList P ops Q rest (a.put dst r) w):
  wpList P ops Q (⟨dst,.index t x ix,ty,pos,after,none⟩::rest) a w:=
 Qbi rfl λK hK=>by unfold Oper.wp;rw[<-hx,<-hi] at h;exact zfj
def Ja:(prog.info? 152).map (·.size)=some 768:=KJ
def zgj{w:Wo}{pb:Nat}{cells:List aM}{dep:Nat}{sv pv gv:Va}(h:aq w pb 154 (di cells dep sv pv gv))(hl:cells.length=256):
  (Instr.loadAt 152 (li pb)).run prog w= .ok (.agg (ew cells).toArray) w:=by
 have hlen:(ew cells).length=768:=by rw[eU,hl]
 have hc:(loadCells (ol pb) (ew cells).length).run prog w= .ok (ew cells).toArray w:=
  Qay (P:=prog) w (ol pb) (ew cells) (λj v hv=>by
   have UN:((ol pb):Addr).add j=(an pb j):=by unfold Addr.add;split<;>simp_all
   rw[UN];exact h.cell (by rw[di,QN (Ql.1 hv).1];exact hv))
 have abj:(isAgg 152).run prog w= .ok true w:=by rw[isAgg,Qaz,Qax underlying152 w];rfl
 simp only[Instr.loadAt,Instr.sureAddr,Qaz,Qcc,Result.andThen];cases hq:prog.info? 152 with
 |none=>have:=Ja;rw[hq] at this;cases this
 |some i=>
  have hs:i.size=(ew cells).length:=by have:=Ja;rw[hq] at this;rw[hlen];exact zdO
  simp[loadVar,Qaz,abj,sizeOf,typeInfo,hq,hs,hc]
def Pa:(prog.info? 151).map (·.size)=some 3:=KJ
def FJ(cells:List aM)(hl:cells.length=256)(n:Nat)(c:aM)(h:cells[n]? =some c)(w:Wo):
  (Instr.index 152 (.agg (ew cells).toArray) (ac n)).run prog w= .ok (.agg #[ac c.block,ac c.depth,ac c.ao]) w:=by
 have hn:n<256:=by rw[<-hl];exact(Ql.1 h).1
 obtain⟨F,hF⟩:∃F,prog.underlying 151=some (.struct F):=⟨_,underlying151⟩;have abj:(isAgg 151).run prog w= .ok true w:=by rw[isAgg,Qaz,Qax hF w];rfl
 have cz:(sizeOf 151).run prog w= .ok 3 w:=by
  unfold sizeOf typeInfo;cases hq:prog.info? 151 with
  |none=>have:=Pa;rw[hq] at this;cases this
  |some i=>
   have:=Pa;rw[hq] at this;have h3:i.size=3:=zdO;simp[hq,h3]
 have hex:((ew cells).drop (n*3)).take 3=[ac c.block,ac c.depth,ac c.ao]:=by have h0:=iD cells n c h 0 Fd;have h1:=iD cells n c h 1 Fd;have h2:=iD cells n c h 2 Fd;have hlen:n*3+3<=(ew cells).length:=zcF;rw[XC] at h0;obtain⟨l0,e0⟩:=Ql.1 h0;obtain⟨l1,e1⟩:=Ql.1 h1;obtain⟨l2,e2⟩:=Ql.1 h2;rw[Zd l0,Zd l1,Zd l2,e0,e1,e2];rfl
 have h1:(n:Int)<256:=Mx;have h2:=Xh n;unfold Instr.index;simp only[asIntOf,Qaz,Qcc,XH,Qax underlying152];rw[Xo ⟨h2,Mx⟩];simp only[Qaz,cz,XH,part,abj];simp[cz,hex]
def Ki(c:aM):Prop:=c.depth<=8/\0<=c.block/\c.block<65536
def yP{dep:Nat}{ae:List (Nat×Int)}(hs:eQ dep ae):∀c∈bc dep ae,Ki c:=by
 intro c hc;unfold bc at hc;obtain⟨n,-,rfl⟩:=QU.1 hc;rw[Qe];cases hq:(uH dep ae)[n/2^(8 - dep)]? with
 |none=>exact⟨Fd,Fd,Fd⟩
 |some x=>
  have hx:=Qi hq;unfold uH at hx;obtain⟨sg,h1,h2⟩:=QT.1 hx;rw[QJ h2];have hb:=hs.Ej sg h1;have:=hs.d8;exact⟨Qh (Qfm _ _) this,Qca hb.1,Qhp hb.2 Fd⟩
def CZ{cells:List aM}(h:∀c∈cells,Ki c):∀(ao:List ak),(∀c∈ao,qo c)->∀x∈cJ cells ao,Ki x:=by
 have h2:∀(ao:List ak) (i:Nat) (cells:List aM),(∀c∈cells,Ki c)->(∀c∈ao,qo c)->∀x∈foldI fE i ao cells,Ki x:=by
  intro ao;induction ao with
  |nil=>intro i cells h _;exact h
  |cons c r ih=>
   intro i cells h hc;refine ih (i+1) (fE cells i c) (λx hx=> ?_) (λy hy=>hc y (Qs _ hy));unfold fE at hx;obtain⟨m,hm,rfl⟩:=List.mem_mapIdx.1 hx;have SP:=hc c Qm;split
   .refine⟨SP.d8,?_⟩;show 0<=c.blocks.getD 0 0/\c.blocks.getD 0 0<65536;rw[Qe];cases hq:c.blocks[0]? with
    |none=>exact⟨Fd,Fd⟩
    |some y=>have:=SP.kp.pos y (Qi hq);exact⟨this.1,Qhp this.2 Fd⟩
   .exact h _ (QI _)
 exact λao hc=>h2 ao 0 cells h hc
def GO{cells:List aM}{c:aM}(h:cells[k]? =some c):jC (cells.take (k+1))=max (jC (cells.take k)) c.depth:=by rw[jC,aA cells k c h,Qbv];rfl
def at_five{dep:Nat}(h8:dep<=8)(h:(at_.length:Int)=aR (2^dep:Nat)):at_.length<=5:=by have h2:=rz h8;exact zfi
def AC(h:(k:Int)<aR (n:Int)):61*k<n:=zfi
def abX{dep:Nat}(hl:l.length=2^dep)(h:(at_.length:Int)=aR (2^dep:Nat)):∀k,k<at_.length->61*k<l.length:=λk hk=>by rw[hl];exact AC (by rw[<-h];omega)
def oC(n:Nat):aR (n:Int)=(kB n:Int):=by
 unfold kB;have:0<=aR (n:Int):=by unfold aR;split<;>omega
 omega
def rT(h:n<=256):kB n<=5:=by have:=oC n;unfold aR at this;split at this<;>omega
def vc{w:Wo}{S:FV}(h:w.ownsRow b e sz v n xs)(hc:aG S w w')(hS:∀g,v.ownBlock=some g->¬S g):w'.ownsRow b e sz v n xs:=by
 obtain⟨hl,h|⟨g,cap,cur,rfl,h1,h2,h3⟩⟩:=h
 .exact⟨hl,.inl h⟩
 .exact⟨hl,.inr ⟨g,cap,cur,rfl,h1,(hc.block g (Qy.1 h2).1 (hS g rfl)).trans h2,h3⟩⟩
def pG{w:Wo}(h:w.ownsRow b e sz v n xs)(hg:v.ownBlock=some g):b<=g/\g<w:=Xr h g hg
structure kQ(w:Wo)(db pb:Nat)(dc:Ox)(cells:List aM)(dep:Nat)(sv pv gv:Va)(sl pl gl:Fr)(W:Wo):Prop where
 own:aq W pb 154 (di cells dep sv pv gv)
 dir:aq W db 66 dc
 sn:aB W w 30 .u16 sv sl
 pn:aB W w 3 .i64 pv pl
 gn:aB W w 3 .i64 gv gl
 low:Below w w W
 lb:w<=db/\db<pb
 ne:∀b,gv.ownBlock=some b->pv.ownBlock≠some b
section
def kQ.on(h:kQ w db pb dc cells dep sv pv gv sl pl gl W)(hb:ci W W'):kQ w db pb dc cells dep sv pv gv sl pl gl W' :=
 ⟨h.own.on hb,h.dir.on hb,aB.on h.sn hb,aB.on h.pn hb,aB.on h.gn hb,Pd h.low hb,h.lb,h.ne⟩
def iQ.fill{stay:Fr}(h:iQ w db tb pb dc stay cells dep sv () gv gl W)(o:aq W' pb 154 (di cells dep tZ () gv))(s:aB W' W 30 .u16 tZ sl)(c:aG (λx=>x=pb) W W'):kQ w db pb dc cells dep tZ () gv sl [] gl W' :=
 ⟨o,h.dir.aL c (XP h.lb.2.1),aB.low s h.low.size,cQ _ _ _ _,vc h.gn c (λg hg e=>(h.ne g hg).2.1 e),h.low.trans (c.below h.low.size (λx hx e=>by have:=h.lb;omega)),⟨h.lb.1,h.lb.2.1⟩,λb _ e=>by cases e⟩
def kQ.lay(h:kQ w db pb dc cells dep sv () gv sl [] gl W)(hl:cells.length=256)(n:Nat)(hn:n<=100000):
  kQ w db pb dc cells dep sv (el W 0 n n) gv sl (replicate n 0) gl ((W.alloc (.cells (replicate n (ac 0)).toArray 3)).setCell (an pb 770) (el W 0 n n)):=by
 obtain⟨W1,aW⟩:∃y,y=W.alloc (.cells (replicate n (ac 0)).toArray 3):=⟨_,rfl⟩;have b1:ci W W1:=zab;have X1:aq W1 W 3 (replicate n (ac 0)):=by rw[aW];exact ar W _ _
 rw[<-aW];have o:=(h.own.on b1).set 770 (el W 0 n n);rw[show(770:Nat)=768+2 from rfl,fC hl 2] at o;have hX:aB W1 w 3 .i64 (el W 0 n n) (replicate n 0):=by have:=C8 (w:=W1) (g:=W.heap.size) (e:=3) (k:= .i64) (xs:=replicate n 0) (base:=w.heap.size) (by rw[Qdg];exact X1) h.low.size (by rw[QK];unfold maxLen;omega);rw[QK] at this;exact this
 refine⟨o,(h.dir.on b1).az (p:=an pb 770) (XP h.lb.2) _,aB.aT (aB.on h.sn b1) (h.own.on b1) Fd _ _,aB.aT hX (h.own.on b1) Fd _ _,aB.aT (aB.on h.gn b1) (h.own.on b1) Fd _ _,(Pd h.low b1).setCell (p:=an pb 770) (Qh h.lb.1 (QX h.lb.2)) _,h.lb,λb hb e=> ?_⟩;have e:W.heap.size=b:=Qr e;have:=pG h.gn hb;omega
def kQ.put{gp c:Nat}(h:kQ w db pb dc cells dep sv (el gp 0 n c) gv sl pl gl W)(i:Nat)(x:Int):
  kQ w db pb dc cells dep sv (el gp 0 n c) gv sl (pl.set i x) gl (W.setCell (an gp i) (ac x)):=by
 have ho:=(pG h.pn (g:=gp) rfl).1;have c1:aG (λy=>y=gp) W (rc W gp i (ac x)):=(aG.refl (λy=>y=gp) W).setCell (p:=an gp i) (λ_=>rfl) _;have n1:pb≠gp:=λe=>h.own.not_row Fd h.pn zcG;have n2:db≠gp:=λe=>h.dir.not_row Fd h.pn zcG;refine⟨h.own.aL c1 n1,h.dir.aL c1 n2,vc h.sn c1 (λg hg e=> ?_),Cp h.pn i x,vc h.gn c1 (λg hg e=>h.ne g hg zcG),h.low.setCell (p:=an gp i) ho _,h.lb,h.ne⟩;obtain q|q:=iT h.sn h.pn Fd
 .rw[q] at hg;cases hg
 .exact q (by rw[hg,e];rfl)
def kQ.app(h:kQ w db pb dc cells dep sv pv gv sl pl gl W)(hl:cells.length=256)(vy:Va)(ys:Fr)(hy:Ns W B .i64 vy ys)(hn:gl.length+ys.length<=1000000)(ty:Fy):
  ∃v' W',(Builtin.append_ #[53,53] ty #[gv,vy]).run prog W= .ok v' W'/\(∃A n c,v' = am A n c)/\jp W' pb 771 gv/\W'.frozen? (an pb 771)=false/\kQ w db pb dc cells dep sv pv v' sl pl (gl++ys) (W'.setCell (an pb 771) v'):=by
 obtain⟨v',W',r,o,g,e⟩:=cy (P:=prog) W w 53 ty 3 (ac 0) 1 8 underlying53 iE rfl Fd gv gl.length _ h.gn vy ys.length _ hy (dW .i64 ys) Do Mx h.low.size;have o2:aB W' w 3 .i64 v' (gl++ys):=by rw[aB,Qo,QL];exact o
 have own:=h.own.grown g (Xm (h.own.not_row Fd h.gn));refine⟨v',W',r,o2.bu,own.cell (bq hl 3),own.free 771,?_⟩;have o3:=own.set 771 v';rw[show(771:Nat)=768+3 from rfl,fC hl 3 v'] at o3;refine⟨o3,(h.dir.grown g (Xm (h.dir.not_row Fd h.gn))).az (p:=an pb 771) (XP h.lb.2) v',aB.aT (aB.kept h.sn g (iT h.sn h.gn Fd)) own Fd 771 v',aB.aT (aB.kept h.pn g ?_) own Fd 771 v',aB.aT o2 own Fd 771 v',(h.low.grown g h.low.size (λj e=>(pG h.gn e).1)).setCell (p:=an pb 771) (Qh h.lb.1 (QX h.lb.2)) v',h.lb,λb hb hp=> ?_⟩
 .cases hq:gv.ownBlock with
  |none=>
   cases hp:pv.ownBlock with
   |none=>exact .inl rfl
   |some b=>exact .inr Sv
  |some b=>exact .inr (h.ne b hq)
 .rcases e with e|e
  .exact h.ne b (e▸hb) hp
  .rw[e] at hb;have hb:=Qr hb;have:=(pG h.pn hp).2;omega
end
def wl_appR{P:ST}{ops:LC}{w:Wo}{Q:Mp}{a:Act}{rest:List Oper}{dst:Option Tmp}{os ox:Operand}{t ty:Fy}{pos:String}{after:Array Edge}(v vx v' :Va)(h:(Builtin.append_ #[t,t] ty #[v,vx]).run P w= .ok v' w')(hs:a.eval os=v)(hx:a.eval ox=vx)(hk:wpList P ops Q rest (a.put dst v') w'):
  wpList P ops Q (⟨dst,.call {callee:= .builtin .append,args:= #[os,ox],argTypes:= #[t,t]},ty,pos,after,none⟩::rest) a w:=
 Qbi rfl λK hK=>by rw[Oper.wp,ea hs hx h];exact hK _ _ hk
def vF(at_ wG bP:Fr):(jF at_ wG bP).length=kB bP.length:=by simp[jF]
def F8{wG bP:Fr}(h:k<kB bP.length):(jF at_ wG bP)[k]? =some (qv at_ wG bP k):=by rw[jF,Qt,Qam h];rfl
def Cj{x:Int}(hl:l.length=n)(hk:k<n)(hx:l[k]? =some x):(l.take k++replicate (n - k) 0).set k x=l.take (k+1)++replicate (n - (k+1)) 0:=by
 have h1:(l.take k).length=k:=by rw[Qu,hl];omega
 rw[aA l k x hx,ZB _ _ (by rw[h1];exact go),h1,XE,QY,show n - k=(n - (k+1))+1 by omega,Qcy];rfl
def Co{w:Wo}{c:Nat}{e:Fy}{k:IntKind}{xs:Fr}{j:Nat}{x:Int}(h:aB w base e k (el g 0 n c) xs)(hj:xs[j]? =some x):jp w g j (.int k x):=by obtain⟨b,o,c',hv,-,-,-,hc⟩:=Ns.cells h.ns (QO (Qp j) (Ql.1 hj).1);injection hv with h1 h2 h3;injection h1 with h1;injection h1 with h1 h2;subst h1 h2;have:=hc j (Ql.1 hj).1;rw[QR,Qe,hj] at this;exact this
def PM{x:Int}(h:l[k]? =some x):l.set k x=l:=by obtain⟨hk,rfl⟩:=Ql.1 h;exact List.set_getElem_self hk
def Jd(hl:l.length=n)(hk:k<n):(l.take k++replicate (n - k) 0)[k]? =some 0:=by
 have h1:(l.take k).length=k:=by rw[Qu,hl];omega
 rw[QM (by rw[h1];exact go),h1,XE,Zr,Xo Mx]
def zV(w:Wo)(dep:Nat)(ae:List (Nat×Int))(at_:Fr)(rn:eQ dep ae)(dv av:Va)(ue:Ns w w .u16 dv (expand ae))(AE:Ns w w .i64 av at_)(ei:(at_.length:Int)=aR (2^dep:Nat))(S:FV)(gv cv:Va)(gone ao:List ak)(hg:mI w S gv gone)(hc:mI w S cv ao)(AU:gone.length<=20)(oJ:ao.length<=10000)(JM:∀c∈gone,ru c)(AW:∀c∈ao,qo c)(mW:(dD ao).length<=100000):
  Calls prog 77 #[.agg #[io dep,dv],av,gv,cv] w λr w' =>∃pb sv pv TQ,r= .returned (li pb)/\w.heap.size<=pb/\aq w' pb 154 (di (bt dep ae at_ gone ao).cells (bt dep ae at_ gone ao).dep sv pv TQ)/\
   aB w' w 30 .u16 sv (bt dep ae at_ gone ao).bP/\aB w' w 3 .i64 pv (bt dep ae at_ gone ao).ag/\aB w' w 3 .i64 TQ (bt dep ae at_ gone ao).gone/\ci w w' :=by
 have agV:=at_five rn.d8 ei;have hol:=abX rn.sum ei;obtain⟨Ag,cg,rfl⟩:=hg.form;obtain⟨Ac,cc,rfl⟩:=hc.form;obtain⟨Ad,cd,rfl,-,-⟩:=ue.form;obtain⟨Aa,ca,rfl,-,-⟩:=AE.form;have⟨G,hG⟩:=eX gone.length;have⟨C,hC⟩:=eX ao.length;have⟨nd,im⟩:=eX ((expand ae).length);have⟨na,Ez⟩:=eX at_.length;have J1:Ns w w .u16 (am Ad nd cd) (expand ae):=by rw[im];exact ue
 have agU:Ns w w .i64 (am Aa na ca) at_:=by rw[Ez];exact AE
 rw[<-hG,<-hC,<-im,<-Ez];have HG:=aa hg;have HC:=aa hc;have HD:=hI8 rn J1 agU Ez agV im hol rn.len;have HN:=hI7 hG hC (by omega:G<=20) (by omega:C<=10000) JM AW mW;obtain⟨W1,aW,X1,b1⟩:=nW w [io dep,am Ad nd cd] 66;have⟨db,iU⟩:=eX w.heap.size;rw[<-iU] at X1;have tl:=iJ X1 b1 iU;have gB:=dK aW.symm iU.symm;obtain⟨x0,x1⟩:=gh X1;have⟨T1,rh⟩:=eX ((ew (bc dep ae)).toArray);have⟨T2,tG⟩:=eX ((di (bc dep ae) 0 () () ()).toArray);have J2:=G8 W1 dep ae rn (am Ad nd cd) (Sl.more (Sl.below J1 b1) b1.size);rw[<-rh] at J2;have je:=aa J2;have agS:∀W,(Instr.build 154 #[(0,.agg T1)]).run prog W= .ok (.agg T2) W:=λW=>by rw[rh,tG];exact G9 W _ (by rw[eU,cX])
 have JT:=aa tG;have ahc:=aa agS;clear rn ue AE J1 agU agV hol ei hg hc hG hC im Ez AU oJ JM AW mW aW X1 b1 iU rh tG J2 agS;go_in;go_upto_region 1 with fail;rw[gB.p1,gB.q1];go_upto_region 2 with(go_at_call 145;refine je.o.mono ?_;rintro e W2 ⟨rfl,b2⟩;have B2:=aa b2;clear b2;rename_i K0 hK0;refine hK0 _ _ ?_;refine wl_build1 (.agg T1) (.agg T2) rfl (ahc.o W2) ?_);clear x0 x1 ahc;have⟨W3,cD⟩:=eX (W2.alloc (.cells T2 154));have⟨pb,xy⟩:=eX W2.heap.size;rw[<-cD,<-xy];have X3:aq W3 pb 154 (di (bc dep ae) 0 () () ()):=by rw[cD,xy,JT.o];exact ar W2 _ _
 have b3:ci W2 W3:=zbr;have l12:=Pd B2.o b3;have l3:=Pd tl.p2 l12;have Em:=kH X3 (tl.p1.on l12) l3 (by rw[xy];exact Qn tl.p1.lt B2.o.size:db<pb);have AL:=aa (sZ W3 (λx=>w.heap.size<=x) (am Ac C cc) ao (((by rw[HN.p2];exact HC.o):mI w S (am Ac C cc) ao).apart (T:=λx=>w.heap.size<=x) (λx hx=>Or.inr hx) |>.on l3) zcs);have HCc:Af (∀(W:Wo) (v:Va) (ls:List (Va×List Int)),NsL W v ls->ls.map Prod.snd=ao.map (·.blocks)->Calls prog 120 #[v] W λe w' =>∃v',e= .returned v'/\aB w' W 3 .i64 v' (dD ao)/\ci W w'):=λW v ls h1 h2=>by
  have e1:ls.flatMap Prod.snd=dD ao:=by have:ls.flatMap Prod.snd=(ls.map Prod.snd).flatten:=rfl;rw[this,h2];rfl
  have h3:=nQ W v ls h1 (by have:=XF List.length h2;rw[Qq,Qq] at this;rw[this,<-HN.p2];exact HN.p4) (by unfold iL;rw[e1];exact HN.q6);rw[e1] at h3;exact h3
 have anS:Af (w.heap.size<=db):=by show _<=_;rw[tl.q2];exact go
 clear cD xy X3 b3 l12 l3 je JT tl gB;go_upto_region 3 with(first
  |(go_at_call 146;refine AL.o.mono ?_;rintro e W4 ⟨v4,ls4,rfl,q4,m4,b4,-⟩;obtain⟨A4,c4,rfl⟩:=q4.form;have HC4:=aa (HCc.o W4 _ ls4 (q4.nsL b4.size) m4);have B4:=aa b4;clear b4 q4 m4)
  |(go_at_call 120;refine HC4.o.mono ?_;rintro e W5 ⟨v5,rfl,o5,b5⟩;obtain⟨A5,n5,c5,rfl⟩:=o5.bu;have O5:=aa o5;have B5:=aa (Pd B4.o b5);have Yl:=aa b5;clear o5 b5))
 have⟨W6,jc⟩:=eX (W5.alloc (.cells #[am A5 n5 c5] 53));have⟨tb,pS⟩:=eX W5.heap.size;rw[<-jc,<-pS];have ST3:Af (iQ w db tb pb [io dep,am Ad nd cd] (dD ao) (cJ (bc dep ae) (ao.take 0)) 0 () () () [] W6):=by
  have b6:ci W5 W6:=zdr;have l36:=Pd B5.o b6;have X6:aq W6 tb 53 [am A5 n5 c5]:=by rw[jc,pS];exact ar W5 [_] _
  have pT:=O5.o.ns;obtain⟨A,cx,hv,-,-⟩:=pT.form;have hn5:n5=(dD ao).length:=No;rw[hn5] at X6 pT;refine⟨Em.p1.on l36,Em.p2.on l36,⟨A5,c5,X6,(Ns.below pT b6).more (by rw[pS];exact Q0 _),by rw[<-hn5];exact jG O5.o (λx hx=>by have h1:=Em.p1.lt;have h2:=B4.o.size;omega)⟩,cQ _ _ _ _,Pd Em.p3 l36,⟨?_,Em.q3,?_,X6.lt⟩,λb hb=>by cases hb⟩
  .exact anS.o
  .rw[pS];exact Qn Em.p1.lt B5.o.size
 clear jc pS AL HCc HC4 B4 B5 Yl O5;have hCn:=HN.p4;go_wp2_with fail;go_loopw [31] (λiv wr=>∃k:Nat,iv= ac k/\Af (k<=C/\iQ w db tb pb [io dep,am Ad nd cd] (dD ao) (cJ (bc dep ae) (ao.take k)) 0 () () () [] wr)) (λiv _=>C - (intOf iv).toNat)
 .exact⟨0,rfl,lm,ST3.o⟩
 .obtain⟨k,rfl,HR⟩:=hrel;by_cases hk:k<C
  .obtain⟨c,jV⟩:∃c,ao[k]? =some c:=⟨_,Qf zcR⟩;obtain⟨b,o,rr,A1,A2,m1,c1,m2,c2,hv,bO,z0,z1,z2,z3,kG⟩:=HC.o.lG jV;obtain rfl:Ac=some (an b o):=No;have jZ:=HN.p6 c (Qi jV);have aU:=HR.q1.low;have y0:=(aU.cell (p:=an b (o+k*4)) bO).trans z0;have y1:=(aU.cell (p:=an b (o+k*4+1)) bO).trans z1;have y2:=(aU.cell (p:=an b (o+k*4+2)) bO).trans z2;have y3:=(aU.cell (p:=an b (o+k*4+3)) bO).trans z3;have⟨fr,eo⟩:=eX c.ax;have⟨dp,eK⟩:=eX c.depth;rw[<-eo] at y0;rw[<-eK] at y1;have fg:0<c.blocks.length:=(by rw[jZ.kp.len];exact List.length_pos_iff.2 jZ.ne);obtain⟨e1,-,b1,o1,b2,o2,sh,Ae,ne,ce,rfl,rfl,l1,-,-,q1,-,-,-,-,-⟩:=Fo kG jZ.kp.len fg;obtain⟨tj,ky,X3,b3⟩:=nW wr [ac fr,ac dp,el b1 o1 m1 c1,el b2 o2 m2 c2] 72;have⟨xb,eD⟩:=eX wr.heap.size;rw[<-eD] at X3;have H3:=iJ (by rw[GU];exact HR.q1.on b3:iQ w db tb pb [io dep,am Ad nd cd] (dD ao) (eA (cJ (bc dep ae) (ao.take k)) k c 0) 0 () () () [] tj) X3 (by rw[eD];exact HR.q1.lb.2.2.2:tb<xb);have⟨b0,jr⟩:=eX (c.blocks.getD 0 0);have HX:=anl jV hk jZ eo eK jr (by rw[jr];exact q1 0 fg:w.cell? (an b1 o1)=some (ac b0)) l1 e1 (by rw[e1];exact fg:0<m1);have mT:=dK ky.symm eD.symm;obtain⟨u1,u2,u3⟩:=bR hk (Qh HN.p4 (show 10000<=100000 by decide)) Fd;have Hu:=aa u1;clear jV hv bO z0 z1 z2 z3 kG jZ aU eo eK fg e1 l1 q1 ky X3 b3 eD jr HR hk u1;go_upto_region 6 with fail;rw[mT.p1,mT.q1];clear y0 y1 y2 y3;go_wp2_with fail;go_loopw [36] (λjv wr=>∃n:Nat,jv= ac n/\Af (n<=256/\iQ w db tb pb [io dep,am Ad nd cd] (dD ao) (eA (cJ (bc dep ae) (ao.take k)) k c n) 0 () () () [] wr/\aq wr xb 72 [ac fr,ac dp,el b1 o1 m1 c1,el b2 o2 m2 c2])) (λjv _=>256 - (intOf jv).toNat)
   .exact⟨0,rfl,lm,H3.p1,H3.p2⟩
   .obtain⟨n,rfl,HI⟩:=hrel;by_cases hn:n<256
    .have n0:=Xh n;have n1:(n:Int)<256:=Mx;have w1:wrap64 ((n:Int)+1)=(n:Int)+1:=vW;have Hn:Af (n<256/\wrap64 ((n:Int)+1)=(n:Int)+1):=⟨hn,w1⟩;have hlen:(cJ (bc dep ae) (ao.take k)).length=256:=zcf;obtain⟨x,hx⟩:∃x,(cJ (bc dep ae) (ao.take k))[n]? =some x:=⟨_,Qf (by rw[hlen];exact hn)⟩;obtain⟨g1,g2⟩:=GV (i:=k) (c:=c) hx;obtain⟨R,hR⟩:∃R,R=bY c.ax c.depth n:=⟨_,rfl⟩;have HT:=tV wr c.ax c.depth n HX.p3.f256 HX.p3.d8 hn (el b1 o1 m1 c1) (el b2 o2 m2 c2);rw[<-hR,<-HX.p4,<-HX.p5] at HT;replace HT:=aa HT;have x0:=HI.q2.j0;have x1:=HI.q2.j1;have x2:=HI.q2.j2;have x3:=HI.q2.j3;have qg:=aa HI.o;rw[<-hR] at g2;have wM:Af ((eA (cJ (bc dep ae) (ao.take k)) k c n)[n]? =some x/\eA (cJ (bc dep ae) (ao.take k)) k c (n+1)=if R=true then(eA (cJ (bc dep ae) (ao.take k)) k c n).set n ⟨c.blocks.getD 0 0,c.depth,k+1⟩ else eA (cJ (bc dep ae) (ao.take k)) k c n):=⟨g1,g2⟩;clear hlen hx g1 g2 hR HI hn w1
     cases R
     .go_wp2_with(go_at_call 92;refine HT.o.mono ?_;rintro e W8 ⟨rfl,b8⟩;have B8:=aa b8;clear b8);have e1:=wM.q1;rw[Xd Fd] at e1;exact⟨⟨n+1,zaH,Hn.p1,by rw[e1];exact qg.p2.on B8.o,qg.q2.on B8.o⟩,Rp⟩
     .go_upto_region 10 with(go_at_call 92;refine HT.o.mono ?_;rintro e W8 ⟨rfl,b8⟩;have B8:=aa b8;clear b8);clear x0 x1 x2 x3;have hp8:=qg.p2.on B8.o;have hx8:=qg.q2.on B8.o;have⟨Wd,dJ⟩:=eX W8.drew;have AG:=aa dJ.symm;have te:iQ w db tb pb [io dep,am Ad nd cd] (dD ao) (eA (cJ (bc dep ae) (ao.take k)) k c n) 0 () () () [] Wd:=(by rw[dJ];exact hp8.on (below_drewN pi 1));have MB:aq Wd xb 72 [ac fr,ac dp,el b1 o1 m1 c1,el b2 o2 m2 c2]:=(by rw[dJ];exact hx8);obtain⟨-,x1,x2⟩:=ra MB;have v0:Wd.cell? (an b1 o1)=some (ac b0):=(te.low.cell (p:=an b1 o1) HX.p8).trans HX.p7;have k0:Wd.cell? (an pb (n*3))=some (ac x.block):=te.own.cell (gT n x wM.p1 0 Fd);have k1:Wd.cell? (an pb (n*3+1))=some (ac x.depth):=te.own.cell (gT n x wM.p1 1 Fd);have k2:Wd.cell? (an pb (n*3+2))=some (ac x.ao):=te.own.cell (gT n x wM.p1 2 Fd);have f0:=te.own.free (n*3);have f1:=te.own.free (n*3+1);have f2:=te.own.free (n*3+2);have m0:(0:Int)<m1:=(by have:=HX.q9;omega);have m0' :0<m1:=HX.q9;have HP:=aa te;have HXd:=aa MB;clear hp8 hx8 te MB dJ;refine Qat 14 KJ KJ ?_;simp only[Zw,Zq,Zk,Zl];change wpStill _ _ (World.drew W8) (λa' =>wpList _ _ _ _ a' (World.drew W8)) _ _;rw[AG.o];(repeat still_step);refine Qdf ?_;go_wp2_with fail;have s1:=HP.o.set (n*3) (ac b0) (il n x {x with block:=b0} 0 _ wM.p1 rfl Fd) rfl;have oc:n<(eA (cJ (bc dep ae) (ao.take k)) k c n).length:=(Ql.1 wM.p1).1;have s2:=s1.set (n*3+1) (ac dp) (il n {x with block:=b0} ⟨b0,dp,x.ao⟩ 1 _ (by rw[Qbc oc]) rfl Fd) rfl;have s3:=s2.set (n*3+2) (ac ((k:Int)+1)) (il n ⟨b0,dp,x.ao⟩ ⟨b0,dp,k+1⟩ 2 _ (by rw[Qel,Qbc oc]) rfl Fd) rfl;rw[Qel,Qel] at s3;have e1:=wM.q1;rw[Xo trivial,<-HX.p5,<-HX.p6] at e1;rw[<-e1] at s3;have hxp:xb≠pb:=XO (Qfg HP.o.lb.2.2.1 H3.q2);exact⟨⟨n+1,zaH,Hn.p1,s3,((HXd.o.az (p:=an pb (n*3)) hxp _).az (p:=an pb (n*3+1)) hxp _).az (p:=an pb (n*3+2)) hxp _⟩,Rp⟩
    .have yW:=QE HI.p1 (QC hn);have HE:Af (iQ w db tb pb [io dep,am Ad nd cd] (dD ao) (cJ (bc dep ae) (ao.take (k+1))) 0 () () () [] wr):=(by have h1:=HI.p2;rw[yW,Mh zcf] at h1;rw[GS HX.p1];exact h1);subst yW;clear HI hn;go_wp2_with fail;exact⟨⟨k+1,yL,HX.p2,HE.o⟩,LT⟩
  .have SJ:k=C:=QE HR.p1 (QC hk);have cO:=HR.q1;rw[SJ,Qj zdj] at cO;have HS:=aa cO;obtain rfl:=SJ.symm;clear HR hk cO ST3;go_wp2_with fail;go_loopw [60] (λiv wr=>∃(k:Nat) (gv:Va),iv= ac k/\Af (k<=G/\iQ w db tb pb [io dep,am Ad nd cd] (dD ao) (cJ (bc dep ae) ao) 0 () () gv (iY (gone.take k) ao) wr)) (λiv _=>G - (intOf iv).toNat)
   .exact⟨0,_,rfl,lm,HS.o⟩
   .obtain⟨k,gv,rfl,HR⟩:=hrel;by_cases hk:k<G
    .obtain⟨c,jV⟩:∃c,gone[k]? =some c:=⟨_,Qf zcQ⟩;obtain⟨b,o,rr,A1,A2,m1,c1,m2,c2,hv,bO,z0,z1,z2,z3,kG⟩:=HG.o.lG jV;obtain rfl:Ag=some (an b o):=No;have tg:=HN.p5 c (Qi jV);have aU:=HR.q1.low;have y0:=(aU.cell (p:=an b (o+k*4)) bO).trans z0;have y1:=(aU.cell (p:=an b (o+k*4+1)) bO).trans z1;have y2:=(aU.cell (p:=an b (o+k*4+2)) bO).trans z2;have y3:=(aU.cell (p:=an b (o+k*4+3)) bO).trans z3;obtain⟨fr,eo⟩:∃y,y=c.ax:=⟨_,rfl⟩;obtain⟨dp,eK⟩:∃y,y=c.depth:=⟨_,rfl⟩;have MJ:Ns w w .i64 (am A1 m1 c1) c.blocks:=(by obtain⟨bv,sv,ps,he,g1,-⟩:=kG.ex;obtain⟨rfl,-⟩: am A1 m1 c1=bv/\_:=zaR;exact g1);rw[<-eo] at y0;rw[<-eK] at y1;obtain⟨NU,M8,NA,rfl⟩:=HR.q1.gn.bu;obtain⟨tj,ky⟩:∃z,z=wr.alloc (.cells #[ac fr,ac dp,am A1 m1 c1,am A2 m2 c2] 72):=⟨_,rfl⟩;have X3:aq tj wr 72 [ac fr,ac dp,am A1 m1 c1,am A2 m2 c2]:=(by rw[ky];exact ar wr [_,_,_,_] _);have b3:ci wr tj :=(by rw[ky];exact aF _ _);obtain⟨xb,eD⟩:∃z,z=wr.heap.size:=⟨_,rfl⟩;rw[<-eD] at X3;have mT:Af (wr.alloc (.cells #[ac fr,ac dp,am A1 m1 c1,am A2 m2 c2] 72)=tj/\wr.heap.size=xb):=⟨ky.symm,eD.symm⟩;obtain⟨Wd,dJ⟩:∃y,y=tj.drew:=⟨_,rfl⟩;have AG:Af (tj.drew=Wd):=dJ.symm;have te:iQ w db tb pb [io dep,am Ad nd cd] (dD ao) (cJ (bc dep ae) ao) 0 () () (am NU M8 NA) (iY (gone.take k) ao) Wd:=(by rw[dJ];exact(HR.q1.on b3).on (below_drewN pi 1));have X3d:aq Wd xb 72 [ac fr,ac dp,am A1 m1 c1,am A2 m2 c2]:=(by rw[dJ];exact X3);have HCo:=aa (Fl Wd (am A1 m1 c1) c.blocks w (Ns.below MJ te.low) (Qh tg.y7 Fd));have HP:=aa te;have HXb:=aa X3d;have Tc:Af (∀W,ci Wd W->W.cell? (an pb 771)=some (am NU M8 NA)/\W.cell? (an xb 2)=some (am A1 m1 c1)):=λW hW=>
      ⟨(HP.o.own.on hW).cell (bq zcf 3),(HXb.o.on hW).cell rfl⟩
     have HX:Af (gone[k]? =some c/\k<G/\ru c/\(iY (gone.take k) ao).length+c.blocks.length<=1000000):=⟨jV,hk,tg,by
      have h1:=rW (ao:=ao) (gone:=gone.take k) (λx hx=>HN.p5 x (Za hx));have h2:(gone.take k).length<=20:=Qh (List.length_take_le _ _) (Qh (QX hk) HN.p3);have h3:=tg.y7;have h4:=Qes 4096 h2;omega⟩
     have hmf:∀W,(Instr.makeFunc (Fn.func 148) #[] #[li tb]).run prog W= .ok (Sw tb) W:=λW=>rfl;obtain⟨u1,u2,u3⟩:=bR hk (Qh HN.p3 (show 20<=100000 by decide)) Fd;have Hu:=aa u1;clear jV hv bO z0 z1 z2 z3 kG tg aU eo eK MJ ky X3 b3 eD dJ te X3d HR hk u1;go_upto_region 16 with fail;rw[mT.p1,mT.q1];clear y0 y1 y2 y3;refine bL (λj=>[13].contains j) (λW=>W.cell? (an pb 771)=some (am NU M8 NA)/\W.cell? (an xb 2)=some (am A1 m1 c1)) KJ ?_;rw[AG.o];have L:=Xj Wd Wd;refine tKz 0 64 (li pb) pm (λW hW=>zM) (Tc.o _ L) ?_;(try simp only[Act.put,Qb,Qc,Qd]);refine tKz 1 65 (li pb) pm (λW hW=>zM) (Tc.o _ L) ?_;(try simp only[Act.put,Qb,Qc,Qd]);refine tKz 2 66 (li pb) pm (λW hW=>zM) (Tc.o _ L) ?_;(try simp only[Act.put,Qb,Qc,Qd]);refine tKz 3 67 (ro pb 771) pm (λW hW=>zM) (Tc.o _ L) ?_;(try simp only[Act.put,Qb,Qc,Qd]);refine tKz 4 68 (am NU M8 NA) pm (λW hW=>by have h1_:=hW.1;go_simp) (Tc.o _ L) ?_;(try simp only[Act.put,Qb,Qc,Qd]);refine tKz 5 69 (ro xb 2) pm (λW hW=>zM) (Tc.o _ L) ?_;(try simp only[Act.put,Qb,Qc,Qd]);refine tKz 6 70 (am A1 m1 c1) pm (λW hW=>by have h1_:=hW.2;go_simp) (Tc.o _ L) ?_;(try simp only[Act.put,Qb,Qc,Qd]);refine tKz 8 72 (Sw tb) pm (λW hW=>by unfold Sw;go_simp) (Tc.o _ L) ?_;(try simp only[Act.put,Qb,Qc,Qd]);refine ju 7 rfl KJ λK hK=> ?_;go_simp;go_at_call 95;refine Qaw HCo.o ?_;rintro e V7 ⟨v7,rfl,o7,b7⟩;obtain⟨A7,n7,c7,rfl⟩:=o7.bu;have L:=L.trans b7;go_simp;refine hK.out _ _ (λ_=>(Tc.o _ L)) ?_;clear hK K;(try simp only[Act.put,Qb,Qc,Qd]);refine ju 9 rfl KJ λK hK=> ?_;have hD:=zZ V7 Wd _ _ o7 L.size (Qh HX.p3.y7 Fd) tb (dD ao) (HP.o.stay (base:=Wd.heap.size) HP.o.lb.2.2.2 |>.below L) HN.q6;go_simp;go_at_call 147;refine Qaw hD ?_;rintro e V9 ⟨v9,rfl,o9,b9⟩;obtain⟨A9,n9,c9,rfl⟩:=o9.bu;have L:=L.trans b9;go_simp;refine hK.out _ _ (λ_=>(Tc.o _ L)) ?_;clear hK K;(try simp only[Act.put,Qb,Qc,Qd]);refine ju 10 rfl KJ λK hK=> ?_;obtain⟨v10,ND,r10,⟨A10,n10,EE,rfl⟩,ahK,ag3,p10,g10,-⟩:=(HP.o.on L).app zcf _ _ o9.ns (Qh (Nat.add_le_add_left (Qby _ _) _) HX.q3) 53;rw[<-Gt HX.p1] at p10;have MS:ND.cell? (an pb 771)=some (am NU M8 NA)/\ND.cell? (an xb 2)=some (am A1 m1 c1):=⟨ahK,((HXb.o.on L).grown g10 (Xm ((HXb.o.on L).not_row Fd (HP.o.on L).gn))).cell rfl⟩;refine gM (some 74) rfl zac (ea rfl rfl r10) ?_;refine hK.out _ _ (λ_=>MS) ?_;clear hK K;(try simp only[Act.put,Qb,Qc,Qd]);refine tKz 11 75 (li pb) pm (λW hW=>zM) MS ?_;(try simp only[Act.put,Qb,Qc,Qd]);refine tKz 12 76 (ro pb 771) pm (λW hW=>zM) MS ?_;(try simp only[Act.put,Qb,Qc,Qd]);refine ju 13 rfl KJ λK hK=> ?_;go_simp;refine hK.out _ _ (λh=>absurd h Fd) ?_;clear hK K;(try simp only[Act.put,Qb,Qc,Qd]);refine bD KJ ?_ _;go_wp2_with fail;exact⟨⟨k+1,_,yL,HX.p2,p10⟩,LT⟩
    .have Wu:=QE HR.p1 (QC hk);have cO:=HR.q1;rw[Wu,Qj zdi] at cO;have NL:=aa cO;obtain rfl:=Wu.symm;have⟨CV,hCV⟩:=eX (cJ (bc dep ae) ao);rw[<-hCV] at NL;have ze:=iJ hCV (by rw[hCV];unfold cJ;rw[jt,cX]:CV.length=256) (by rw[hCV];exact CZ (yP HD.p1) ao HN.p6:∀c∈CV,Ki c);have⟨GL,hGL⟩:=eX (iY gone ao);rw[<-hGL] at NL;have HGL:=aa hGL;have⟨T4,hT4⟩:=eX ((ew CV).toArray);have ZQ:(Instr.loadAt 152 (li pb)).run prog wr= .ok (.agg T4) wr:=(by rw[hT4];exact zgj NL.o.own ze.p2);have HLc:=aa ZQ;have HT4:=aa hT4;clear HR hk cO HS hCV hGL ZQ hT4;go_wp2_with((with_reducible refine wl_load (li pb) (.agg T4) ?_ HLc.o ?_);(·rfl));clear HLc;go_loopw [82] (λiv wr=>∃(k d:Nat),iv= ac k/\Af (k<=256/\d=jC (CV.take k)/\d<=8/\iQ w db tb pb [io dep,am Ad nd cd] (dD ao) CV d () () gv GL wr)) (λiv _=>256 - (intOf iv).toNat)
     .exact⟨0,0,rfl,lm,rfl,lm,NL.o⟩
     .obtain⟨k,d,rfl,HR⟩:=hrel;by_cases hk:k<256
      .obtain⟨c,hc⟩:∃c,CV[k]? =some c:=⟨_,Qf (by rw[ze.p2];exact hk)⟩;have ec:=ze.q2 c (Qi hc);have⟨bk,ej⟩:=eX c.block;have⟨dp,eK⟩:=eX c.depth;have⟨cm,oS⟩:=eX c.ao;have hix:=FJ CV ze.p2 k c hc;rw[<-HT4.o,<-ej,<-eK,<-oS] at hix;have HIx:=aa hix;have d8:=HR.p3;have dp8:dp<=8:=(by rw[eK];exact ec.1);have q1:IntKind.u8.wrap (dp:Int)=dp:=ww;have k0:=Xh k;have k1:(k:Int)<256:=Mx;have w1:wrap64 ((k:Int)+1)=(k:Int)+1:=vW;have Hw:=aa w1;obtain⟨tj,ky,X3,b3⟩:=nW wr [ac bk,ac dp,ac cm] 151;have⟨xb,eD⟩:=eX wr.heap.size;rw[<-eD] at X3;have mT:=dK ky.symm eD.symm;have⟨Wd,dJ⟩:=eX tj.drew;have AG:=aa dJ.symm;have te:iQ w db tb pb [io dep,am Ad nd cd] (dD ao) CV d () () gv GL Wd:=(by rw[dJ];exact(HR.q3.on b3).on (below_drewN pi 1));have x1:Wd.cell? (an xb 1)=some (ac dp):=(by rw[dJ];exact X3.cell rfl);have x0:=te.own.cell (bq ze.p2 0);have xf:=te.own.free 768;have HP:=aa te;have HX:=Nv hk hc HR.p2 d8 eK dp8;clear hc ec ej eK oS hix d8 dp8 w1 ky X3 b3 eD dJ te HR hk;go_upto_region 21 with((with_reducible refine wl_index1 (.agg T4) (ac k) _ ?_ ?_ (HIx.o _) ?_);(·rfl);(·rfl));rw[mT.p1,mT.q1];refine Qat 13 KJ KJ ?_;simp only[Zw,Zq,Zk,Zl];change wpStill _ _ (World.drew tj) (λa' =>wpList _ _ _ _ a' (World.drew tj)) _ _;rw[AG.o];(repeat still_step);refine Qdf ?_;go_wp2_with fail;have hm:max (d:Int) (dp:Int)=((max d dp:Nat):Int):=Mx;rw[hm];refine⟨⟨k+1,max d dp,zaf,HX.p1,?_,?_,?_⟩,In⟩
       .rw[GO HX.p2,<-HX.p3,<-HX.p5]
       .exact Nat.max_le.2 ⟨HX.p4,HX.q5⟩
       .exact HP.o.set 768 (io ((max d dp:Nat):Int)) (by rw[show(768:Nat)=768+0 from rfl,fC ze.p2 0];rfl) rfl
      .have cH:=QE HR.p1 (QC hk);have cO:=HR.q3;have qc:=HR.p3;have hdd:=HR.p2;rw[cH,Qj (by rw[ze.p2];exact go)] at hdd;have HS5:=iJ cO qc hdd;subst cH;have HFl:=aa (yH wr pb CV d _ _ gv cO.own ze.p2 qc (λc hc=>(ze.q2 c hc).2));clear HR hk cO qc hdd NL;go_upto_region 24 with(go_at_call 149;refine HFl.o.mono ?_;rintro e W5 ⟨sv,rfl,x5,s5,c5⟩;obtain⟨Bk,wH,Bc,rfl⟩:=s5.bu;have HS6:=aa (HS5.p1.fill x5 s5 c5);clear x5 s5 c5);have⟨SL,ML⟩:=eX (dS d CV);rw[<-ML] at HS6;have kr:SL.length=wH/\SL.length<=256:=(by obtain⟨A,c,e,-,-⟩:=HS6.o.sn.ns.form;injection e with e1 e2 e3;refine⟨e2.symm,?_⟩;rw[ML,fe];exact(rz HS5.p2).2);have⟨PN,hPN⟩:=eX (kB SL.length);have pW:=Ba ML kr.1 kr.2 hPN (by rw[hPN];exact rT kr.2:PN<=5);have tz:=dY W5 (wH:Int) (Xh _) (by rw[<-kr.1];have:=kr.2;omega);rw[<-kr.1,oC,<-hPN,kr.1] at tz;have EJ:=aa tz;have⟨gp,hgp⟩:=eX W5.heap.size;have aa2:=HS6.o.lay ze.p2 PN (Qh pW.q4 Fd);have yX:=eV underlying53 iE (eC .i64 0) Fd PN (Qh pW.q4 Fd) W5;have⟨W6,jc⟩:=eX (W5.alloc (.cells (replicate PN (ac 0)).toArray 3));rw[<-jc,<-hgp] at aa2 yX;have b6:ci W5 W6:=zdr;have aaS:=HS6.o.own.cell (bq ze.p2 1);have amR:=(HS6.o.own.on b6).cell (bq ze.p2 2);have anq:=(HS6.o.own.on b6).free 770;have HS7:=aa aa2;clear ML kr hPN tz hgp aa2 jc b6 HFl;go_upto_region 25 with(go_at_call 30;refine EJ.o.mono ?_;rintro e W5' ⟨rfl,rfl⟩);have⟨W7,Eh⟩:=eX (W6.setCell (an pb 770) (el gp 0 PN PN));rw[<-Eh] at HS7|-;clear Eh yX aaS amR anq EJ;have⟨OL,hOL⟩:=eX (expand ae);have⟨PV,hPV⟩:=eX (jF at_ OL SL);have JV:=iJ hPV (by rw[hPV,vF,pW.p4]:PV.length=PN) hOL;have HS8:=aa HS7.o;have af4:=HS7.o.own.cell (bq ze.p2 2);have Hdd:=aa HS5.q2;clear hOL hPV HS7 HS6 HS5;go_wp2_with fail;clear af4;go_loopw [117] (λiv wr=>∃k:Nat,iv= ac k/\Af (k<=PN/\kQ w db pb [io dep,am Ad nd cd] CV d (am Bk wH Bc) (el gp 0 PN PN) gv SL (PV.take k++replicate (PN - k) 0) GL wr)) (λiv _=>PN - (intOf iv).toNat)
       .exact⟨0,rfl,lm,HS8.o⟩
       .obtain⟨k,rfl,HR⟩:=hrel;by_cases hk:k<PN
        .have amK:=HR.q1.own.cell (bq ze.p2 1);have x1:wr.cell? (an db 1)=some (am Ad nd cd):=HR.q1.dir.cell rfl;obtain⟨u1,u2,u3⟩:=bR hk pW.q4 Fd;have Hu:=aa u1;have hpt:=rS wr (am Bk wH Bc) SL HR.q1.sn.ns (Qh pW.p3 Fd) k (AC (by rw[oC,<-pW.p4];omega));have JU:=aa hpt;have cU:=aa HR.q1;have pY:PV[k]? =some (qv at_ OL SL k):=(by rw[JV.p1];exact F8 (by rw[<-pW.p4];exact hk));have⟨pg,tz⟩:=eX (qv at_ OL SL k);rw[<-tz] at pY;have HX:=iJ hk pY tz;have Ul:Af (pg=0->∀W,ci wr W->kQ w db pb [io dep,am Ad nd cd] CV d (am Bk wH Bc) (el gp 0 PN PN) gv SL (PV.take (k+1)++replicate (PN - (k+1)) 0) GL W):=λh0 W hW=>(by have h1:=cU.o.on hW;have h2:=Cj JV.p2 HX.p1 HX.p2;rw[h0,PM (Jd JV.p2 HX.p1)] at h2;rw[<-h2];exact h1);clear hpt pY tz HR hk u1;by_cases hka:k<na
         .have k1:(k:Int)<na:=(by omega);have k0:=Xh k;have⟨R1,hR1⟩:=eX ((bG SL k).contains 0);have⟨R2,SU⟩:=eX (decide (bG SL k=bG OL k));have ahj:Af (∀W,ci wr W->Calls prog 150 #[am Ad nd cd,ac k] W λe w' =>(∃v',e= .returned v'/\Ns W W .u16 v' (bG OL k))/\W=w'):=λW hW=>
           rS W _ OL (Ns.more (Ns.below (by rw[JV.q2];exact HD.p2) (Pd cU.o.low hW)) (Qh cU.o.low.size hW.size)) (by rw[JV.q2];exact Qh HD.q7 Fd) k (by rw[JV.q2];exact HD.p7 k (by rw[<-HD.p4];exact hka))
          have dh:∀l:List Int,(bG l k).length<=100000:=λl=>(by unfold bG;rw[Qu];omega);have pX:=kH hR1.symm SU (dh SL) hka;clear hR1 SU dh hka
          cases R1
          .cases R2
           .have Om:Af (pg=0):=by show _=_;rw[HX.q2];unfold qv;rw[Xd (λh=>absurd h.2.2 (Qbo pX.p2.symm))]
            go_wp2_with(first
             |(go_at_call 150;with_reducible refine JU.o.mono ?_;rintro e W8 ⟨⟨v8,rfl,q8⟩,rfl⟩;obtain⟨A8,c8,rfl,-,-⟩:=q8.form;have yY:=kE _ _ _ q8 pX.p3 0;rw[pX.p1] at yY;have Yc:=aa yY;have Q8:=aa q8;clear q8 yY)
             |(go_at_call 151;refine Yc.o.mono ?_;rintro e W9 ⟨rfl,b9⟩;have hP9:=ahj.o W9 b9;have HP9:=aa hP9;have Q9:=aa ((Ns.below Q8.o b9).more b9.size);have B9:=aa b9;have x9:W9.cell? (an db 1)=some (am Ad nd cd):=(cU.o.on b9).dir.cell rfl;clear b9 hP9)
             |(go_at_call 150;with_reducible refine HP9.o.mono ?_;rintro e uh ⟨⟨v10,rfl,YY⟩,rfl⟩;obtain⟨A10,EE,rfl,-,-⟩:=YY.form;have hE:=vQ _ _ _ _ _ Q9.o YY pX.p3;rw[<-pX.p2] at hE;have HEq:=aa hE;clear hE YY)
             |(go_at_call 152;refine HEq.o.mono ?_;rintro e MP ⟨rfl,Ek⟩;have Th:=aa (Pd B9.o Ek);clear Ek))
            exact⟨⟨k+1,yL,HX.p1,Ul.o Om.o _ Th.o⟩,CC⟩
           .have an0:Af (pg=at_.getD k 0):=by show _=_;rw[HX.q2];unfold qv;rw[Xo ⟨by rw[<-HD.p4];exact pX.q3,by rw[pX.p1];rfl,XQ pX.p2.symm⟩]
            go_upto_region 30 with(first
             |(go_at_call 150;with_reducible refine JU.o.mono ?_;rintro e W8 ⟨⟨v8,rfl,q8⟩,rfl⟩;obtain⟨A8,c8,rfl,-,-⟩:=q8.form;have yY:=kE _ _ _ q8 pX.p3 0;rw[pX.p1] at yY;have Yc:=aa yY;have Q8:=aa q8;clear q8 yY)
             |(go_at_call 151;refine Yc.o.mono ?_;rintro e W9 ⟨rfl,b9⟩;have hP9:=ahj.o W9 b9;have HP9:=aa hP9;have Q9:=aa ((Ns.below Q8.o b9).more b9.size);have B9:=aa b9;have x9:W9.cell? (an db 1)=some (am Ad nd cd):=(cU.o.on b9).dir.cell rfl;clear b9 hP9)
             |(go_at_call 150;with_reducible refine HP9.o.mono ?_;rintro e uh ⟨⟨v10,rfl,YY⟩,rfl⟩;obtain⟨A10,EE,rfl,-,-⟩:=YY.form;have hE:=vQ _ _ _ _ _ Q9.o YY pX.p3;rw[<-pX.p2] at hE;have HEq:=aa hE;clear hE YY)
             |(go_at_call 152;refine HEq.o.mono ?_;rintro e MP ⟨rfl,Ek⟩;have Th:=aa (Pd B9.o Ek);clear Ek))
            have⟨Wd,dJ⟩:=eX MP.drew;have AG:=aa dJ.symm;have te:kQ w db pb [io dep,am Ad nd cd] CV d (am Bk wH Bc) (el gp 0 PN PN) gv SL (PV.take k++replicate (PN - k) 0) GL Wd:=(by rw[dJ];exact(cU.o.on Th.o).on (below_drewN pi 1));have amJ:=te.own.cell (bq ze.p2 2);obtain⟨ba,oa,ca',AE,-,-,pq,AX⟩:=HD.p3.cells (by rw[<-HD.p4];exact QO lm pX.q3);obtain rfl:Aa=some (an ba oa):=(by injection AE);have zat:Wd.cell? (an ba (oa+k))=some (ac pg):=(by rw[an0.o];exact(te.low.cell (p:=an ba (oa+k)) pq).trans (AX k (by rw[<-HD.p4];exact pX.q3)));have avA:=Co te.pn (Jd JV.p2 HX.p1);have zf:=jN te.pn k;have HP:=aa te;have HXn:=aa (Cj JV.p2 HX.p1 HX.p2);clear dJ te AE pq AX amK x1;refine Qat 10 KJ KJ ?_;simp only[Zw,Zq,Zk,Zl];change wpStill _ _ (World.drew MP) (λa' =>wpList _ _ _ _ a' (World.drew MP)) _ _;rw[AG.o];(repeat still_step);refine Qdf ?_;go_wp2_with fail;have agj:=HP.o.put k pg;rw[HXn.o] at agj;exact⟨⟨k+1,yL,HX.p1,agj⟩,CC⟩
          .have Om:Af (pg=0):=by show _=_;rw[HX.q2];unfold qv;rw[Xd (λh=>by have:=h.2.1;rw[pX.p1] at this;cases this)]
           go_wp2_with(first
            |(go_at_call 150;with_reducible refine JU.o.mono ?_;rintro e W8 ⟨⟨v8,rfl,q8⟩,rfl⟩;obtain⟨A8,c8,rfl,-,-⟩:=q8.form;have yY:=kE _ _ _ q8 pX.p3 0;rw[pX.p1] at yY;have Yc:=aa yY;have Q8:=aa q8;clear q8 yY)
            |(go_at_call 151;refine Yc.o.mono ?_;rintro e W9 ⟨rfl,b9⟩;have B9:=aa b9;clear b9))
           exact⟨⟨k+1,yL,HX.p1,Ul.o Om.o _ B9.o⟩,CC⟩
         .have Om:Af (pg=0):=(by show _=_;rw[HX.q2];unfold qv;rw[Xd (λh=>hka (by rw[HD.p4];exact h.1))]);have k0:¬(k:Int)<na:=Mx;clear hka;go_wp2_with(go_at_call 150;refine JU.o.mono ?_;rintro e W8 ⟨⟨v8,rfl,q8⟩,rfl⟩;obtain⟨A8,c8,rfl,-,-⟩:=q8.form;clear q8);exact⟨⟨k+1,yL,HX.p1,Ul.o Om.o _ pi⟩,CC⟩
        .have cH:=QE HR.p1 (QC hk);have cO:=HR.q1;rw[cH,XE,Qcx,Zi,Qj (by rw[JV.p2];exact go)] at cO;have HS9:=aa cO;obtain rfl:=cH.symm;clear HR hk cO HS8;go_upto_region 32 with fail;have ahh:=aa HS9.o;clear HS9;have agn:na<=5:=(by rw[HD.p4];exact HD.p5);have anO:=aa agn;clear agn;go_wp2_with fail;go_loopw [157] (λiv wr=>∃(k:Nat) (gv:Va),iv= ac k/\Af (k<=na/\kQ w db pb [io dep,am Ad nd cd] CV d (am Bk wH Bc) (el gp 0 PN PN) gv SL PV (foldI (dA PV) 0 (at_.take k) GL) wr)) (λiv _=>na - (intOf iv).toNat)
         .exact⟨0,_,rfl,lm,ahh.o⟩
         .obtain⟨k,gv,rfl,HR⟩:=hrel;by_cases hk:k<na
          .obtain⟨ba,oa,ca',AE,-,-,pq,AX⟩:=HD.p3.cells (by rw[<-HD.p4];exact QO lm hk);obtain rfl:Aa=some (an ba oa):=(by injection AE);have⟨pg,tz⟩:=eX (at_.getD k 0);have zat:wr.cell? (an ba (oa+k))=some (ac pg):=(by rw[tz];exact(HR.q1.low.cell (p:=an ba (oa+k)) pq).trans (AX k (by rw[<-HD.p4];exact hk)));have hpk:at_[k]? =some pg:=by rw[tz,Qe,Qf (by rw[<-HD.p4];exact hk)];rfl
           have amJ:=HR.q1.own.cell (bq ze.p2 2);have avB:=HR.q1.own.cell (bq ze.p2 3);obtain⟨u1,u2,u3⟩:=bR hk anO.o Fd;have Hu:=aa u1;have HX:Af (k<na/\foldI (dA PV) 0 (at_.take (k+1)) GL=dA PV (foldI (dA PV) 0 (at_.take k) GL) k pg/\(foldI (dA PV) 0 (at_.take k) GL).length+[pg].length<=1000000):=⟨hk,lW _ _ _ _ hpk _,by
            have h1:=rW (ao:=ao) HN.p5;rw[<-HGL.o,<-HN.p1] at h1;have h2:=Qes 4096 HN.p3;have h3:=zF PV (at_.take k) 0 GL;have h4:(at_.take k).length<=5:=by have:=HD.p5;rw[Qu];omega
            rw[ZA];omega⟩
           have cU:=aa HR.q1;have Up:Af (PV.getD k 0=0->∀(W:Wo),ci wr W->∀(g:Nat),aq W g 3 [ac pg]->∀ty,∃v' W',(Builtin.append_ #[53,53] ty #[gv,el g 0 1 1]).run prog W= .ok v' W'/\(∃A n c,v' = am A n c)/\W'.cell? (an pb 771)=some gv/\W'.frozen? (an pb 771)=false/\kQ w db pb [io dep,am Ad nd cd] CV d (am Bk wH Bc) (el gp 0 PN PN) v' SL PV (foldI (dA PV) 0 (at_.take (k+1)) GL) (W'.setCell (an pb 771) v')):=λh0 W hW g hg ty=>(by have h1:=(cU.o.on hW).app ze.p2 (el g 0 1 1) [pg] (hg.rw.sl (n:=1) (sz:=1) rfl go Fd) HX.q2 ty;rw[HX.p2];unfold dA;rw[Xo h0];exact h1);have p0:=Xh k;have ZX:=cU.o.gn.bu;clear AE pq AX tz hpk HR hk u1;by_cases tg:k<PN
           .have p1:(k:Int)<PN:=(by omega);have p3:=Nat.not_le.2 tg;have⟨pz,hpz⟩:=eX (PV.getD k 0);have zp:wr.cell? (an gp k)=some (ac pz):=Co cU.o.pn (by rw[hpz,Qe,Qf (by rw[JV.p2];exact tg)];rfl);have Hpz:=aa hpz;clear tg hpz;by_cases hz:pz=0
            .have Hz:=aa (Hpz.o.symm.trans hz);obtain⟨NU,M8,NA,rfl⟩:=ZX;subst hz;obtain⟨v9,W9,r9,⟨A9,n9,c9,rfl⟩,amX,ag3,p9⟩:=Up.o Hz.o (wr.alloc (.cells #[ac pg] 3)) (aF _ _) wr (ar wr [_] _) 53;have WV:=aa r9;have HP9:=aa p9;clear r9 p9;go_wp2_with((with_reducible refine wl_appR (am NU M8 NA) (el wr 0 1 1) _ WV.o ?_ ?_ ?_);(·rfl);(·rfl));exact⟨⟨k+1,_,yL,HX.p1,HP9.o⟩,CC⟩
            .have Hz:Af (¬PV.getD k 0=0):=λh=>hz (Hpz.o.trans h);obtain⟨NU,M8,NA,rfl⟩:=ZX;have hzb:(pz==0)=false:=(by simpa using hz);go_wp2_with fail;refine⟨⟨k+1,am NU M8 NA,yL,HX.p1,?_⟩,CC⟩;rw[HX.p2];unfold dA;rw[Xd Hz.o];exact cU.o
           .have p1:¬(k:Int)<PN:=(by omega);have p2:(PN:Int)<=k:=Mx;have Hz:Af (PV.getD k 0=0):=(by show _=_;rw[Qe,QQ (by rw[JV.p2];exact QC tg)];rfl);obtain⟨NU,M8,NA,rfl⟩:=ZX;clear tg;obtain⟨v9,W9,r9,⟨A9,n9,c9,rfl⟩,amX,ag3,p9⟩:=Up.o Hz.o (wr.alloc (.cells #[ac pg] 3)) (aF _ _) wr (ar wr [_] _) 53;have WV:=aa r9;have HP9:=aa p9;clear r9 p9;go_wp2_with((with_reducible refine wl_appR (am NU M8 NA) (el wr 0 1 1) _ WV.o ?_ ?_ ?_);(·rfl);(·rfl));exact⟨⟨k+1,_,yL,HX.p1,HP9.o⟩,CC⟩
          .have cH:=QE HR.p1 (QC hk);have cO:=HR.q1;rw[cH,Qj (by rw[HD.p4];exact go)] at cO;have anY:=aa cO;obtain rfl:=cH.symm;clear HR hk cO ahh;go_wp2_with fail;go_ret;have cO:=anY.o;have e1:bt dep ae at_ gone ao=⟨CV,d,SL,PV,foldI (dA PV) 0 at_ GL⟩:=(by show qD.mk (cJ (bc dep ae) ao) (jC (cJ (bc dep ae) ao)) (dS (jC (cJ (bc dep ae) ao)) (cJ (bc dep ae) ao)) (jF at_ (expand ae) (dS (jC (cJ (bc dep ae) ao)) (cJ (bc dep ae) ao))) (foldI (dA (jF at_ (expand ae) (dS (jC (cJ (bc dep ae) ao)) (cJ (bc dep ae) ao)))) 0 at_ (iY gone ao))=_;rw[<-ze.p1,<-Hdd.o,<-pW.p1,<-JV.q2,<-JV.p1,<-HGL.o]);rw[e1];exact⟨pb,rfl,Qh cO.lb.1 (QX cO.lb.2),_,_,_,cO.own,cO.sn,cO.pn,cO.gn,cO.low⟩
variable{i:Nat}{b:Int}{I:bF}{st:aX}
def Ah(s:aX)(b:Nat)(u:Bool):(s.count b u).2.broken=s.broken:=by
 unfold aX.count;split
 .rfl
 .split
  .rfl
  .split<;>rfl
def kD:∀(l:Fr) (s:aX),(dN s l).broken=s.broken
 |[],_=>rfl
 |x::r,s=>by show(dN (s.count x.toNat false).2 r).broken=_;rw[kD r,Ah]
def pL(s:aX)(d:Fr):(s.put d).2.2.broken=s.broken:=by
 unfold aX.put;split
 .rfl
 .split
  .rfl
  .split<;>rfl
def jT(s:aX)(i:Nat)(b:Int):(s.cM i b).2.broken=s.broken:=by
 unfold aX.cM;split
 .rfl
 .split<;>rfl
def xa(dep:Nat)(p:Int×ay)(st:Int×aX):(nn dep p st).2.broken=st.2.broken:=by
 unfold nn;split
 .exact pL _ _
 .rfl
def Dq(s:aX)(c:ak):(qh s c).2.broken=s.broken:=by
 unfold qh;induction c.blocks.zip c.ah with
 |nil=>rfl
 |cons p r ih=>
  rw[List.foldr_cons,xa];exact ih
def nY:∀(l:List ak) (i:Nat) (st:aX×List aM),(foldI bB i l st).1.broken=st.1.broken
 |[],_,_=>rfl
 |c::r,i,st=>by show(foldI bB (i+1) r (bB st i c)).1.broken=_;rw[nY r];exact Dq _ _
def wi(bP ag:Fr)(s:aX)(i:Nat):(dE bP ag s i).broken=s.broken:=by
 unfold dE;split
 .split
  .dsimp only;rw[jT,pL]
  .exact jT _ _ _
 .exact jT _ _ _
def pe(bP ag:Fr):∀(l:GT) (s:aX),(l.foldl (dE bP ag) s).broken=s.broken
 |[],_=>rfl
 |i::r,s=>by rw[Qak,pe bP ag r,wi]
structure mL(I:bF)(pb:Nat)(cells:List aM)(dep:Nat)(sv pv gv:Va)(w:Wo)(st:aX)(W:Wo):Prop where
 base:cS (λx=>x=pb) W I st
 own:aq W pb 154 (di cells dep sv pv gv)
 aL:aG (λx=>BS I x\/x=pb) w W
section
def mL.on(h:mL I pb cells dep sv pv gv w st W)(hb:ci W W'):mL I pb cells dep sv pv gv w st W' :=⟨h.base.on hb,h.own.on hb,h.aL.trans (aG.aZ hb)⟩
def mL.step{st' :aX}(h:mL I pb cells dep sv pv gv w st W)(hB:cS (λx=>x=pb) W' I st')(hc:aG (BS I) W W'):mL I pb cells dep sv pv gv w st' W' :=
 ⟨hB,h.own.aL hc (h.base.no pb rfl),h.aL.trans (hc.mono λ_ _ e=> .inl e)⟩
def mL.set{uS :List aM}{Of :Nat}{tZ pv' TQ :Va}(h:mL I pb cells dep sv pv gv w st W)(j:Nat)(u:Va)(he:(di cells dep sv pv gv).set j u=di uS Of tZ pv' TQ):mL I pb uS Of tZ pv' TQ w st (W.setCell (an pb j) u):=by refine⟨h.base.set (p:=an pb j) rfl u,?_,h.aL.setCell (p:=an pb j) (λ_=> .inr rfl) u⟩;have o:=h.own.set j u;rw[he] at o;exact o
end
def DL{l:Fr}{k:Nat}{x:Int}(h:l[k]? =some x)(s:aX):dN s (l.take (k+1))=((dN s (l.take k)).count x.toNat false).2:=by rw[dN,aA l k x h,Qbv];rfl
def fS(cells:List aM)(i:Nat)(b:Int)(n:Nat):List aM:=cells.mapIdx λm x=>if m<n/\x.ao=i+1 then{x with block:=b} else x
def Gh(cells:List aM)(i:Nat)(b:Int):fS cells i b 0=cells:=by refine Qal λm=> ?_;rw[fS,Zp];cases cells[m]? <;>simp
def Lm{cells:List aM}(h:cells.length=256)(i:Nat)(b:Int):fS cells i b 256=sA cells i b:=by
 refine Qal λm=> ?_;unfold fS sA;rw[Zp,Qt];by_cases hm:m<256
 .cases cells[m]? <;>simp[hm]
 .rw[QQ Mx];rfl
def Ll(cells:List aM)(i:Nat)(b:Int)(n:Nat):(fS cells i b n).length=cells.length:=by simp[fS]
def Gi{cells:List aM}{n:Nat}{x:aM}(hx:cells[n]? =some x):(fS cells i b n)[n]? =some x/\fS cells i b (n+1)=if x.ao=i+1 then(fS cells i b n).set n {x with block:=b} else fS cells i b n:=by
 have hn:=(Ql.1 hx).1;constructor
 .unfold fS;rw[Zp,hx];simp
 .refine Qal λm=> ?_;by_cases hm:m=n
  .subst hm;by_cases hi:x.ao=i+1
   .rw[Xo hi,Qbc (by rw[Ll];exact hn)];unfold fS;rw[Zp,hx];simp[hi]
   .rw[Xd hi];unfold fS;rw[Zp,Zp,hx];simp[hi]
  .have h1:(if x.ao=i+1 then(fS cells i b n).set n {x with block:=b} else fS cells i b n)[m]? =(fS cells i b n)[m]? :=by
    split
    .rw[Qct (Xm hm)]
    .rfl
   rw[h1];unfold fS;rw[Zp,Zp];have h2:(m<n+1)↔(m<n):=Mx;simp only[h2]
def ig(bP ag:Fr)(s:aX)(i:Nat):Int:=if i<ag.length then(if ag.getD i 0=0 then(s.put (encI 4 (bG bP i))).1 else ag.getD i 0) else 0
def jm(bP ag:Fr)(s:aX)(i:Nat):aX:=if i<ag.length then(if ag.getD i 0=0 then(s.put (encI 4 (bG bP i))).2.2 else s) else s
def FM(bP ag:Fr)(s:aX)(i:Nat):dE bP ag s i=((jm bP ag s i).cM (3+i) (ig bP ag s i)).2:=by
 unfold dE jm ig;split
 .split<;>rfl
 .rfl
def jJ(bP ag:Fr)(s:aX):Prop:=∀i,i<5->ig bP ag ((range i).foldl (dE bP ag) s) i=0\/2<=ig bP ag ((range i).foldl (dE bP ag) s) i/\ig bP ag ((range i).foldl (dE bP ag) s) i<(jm bP ag ((range i).foldl (dE bP ag) s) i).t.len
def FW(f:aX->Nat->aX)(s:aX)(k:Nat):(range (k+1)).foldl f s=f ((range k).foldl f s) k:=by rw[Qbd,Qbv];rfl
def Yh(c:aM):Prop:=0<=c.block/\c.block<65536
def Rr{cells:List aM}(h:∀c∈cells,Yh c)(hb:0<=b/\b<65536):∀c∈sA cells i b,Yh c:=by
 intro c hc;unfold sA at hc;obtain⟨x,hx,rfl⟩:=QU.1 hc;split
 .exact hb
 .exact h x hx
def RT{dep:Nat}{cells:List aM}(h:∀c∈cells,Yh c):∀x∈dS dep cells,0<=x/\x<65536:=by
 intro x hx;unfold dS at hx;obtain⟨n,-,rfl⟩:=QU.1 hx;rw[Qe];cases hq:cells[n*2^(8 - dep)]? with
 |none=>exact⟨Qcp 0,(by decide:(0:Int)<65536)⟩
 |some c=>exact h c (Qi hq)
def LY(w:Wo)(I:bF)(s:aX)(pb:Nat)(p:qD)(sv pv gv:Va)(ao:List ak)(cv:Va)
  (hB:cS (λx=>x=pb) w I s) (e8:s.broken=false) (hp:aq w pb 154 (di p.cells p.dep sv pv gv)) (oJ:p.cells.length=256) (uf:∀c∈p.cells,Yh c) (qc:p.dep<=8)
  (pY:Ns w w .i64 pv p.ag) (Tw:Ap (λx=>BS I x\/x=pb) pv) (Iq:p.ag.length=kB (2^p.dep)) (ZX:Ns w w .i64 gv p.gone) (hga:Ap (λx=>BS I x\/x=pb) gv) (AU:p.gone.length<=100000) (AV:∀x∈p.gone,0<=x)
  (hc:mI w (λx=>BS I x\/x=pb) cv ao) (yY:ao.length<=10000) (AW:∀c∈ao,qo c) (Wy:∀c∈ao,∀sh∈c.ah,∀n:Int,0<=n->n<4096->bC ⟨c.depth,n,sh.es⟩=true)
  (Tv:jJ (dS p.dep (foldI bB 0 ao (dN s p.gone,p.cells)).2) p.ag (foldI bB 0 ao (dN s p.gone,p.cells)).1):
  Calls prog 81 #[pb,I.b,cv] w (iF (.tuple #[]) λw' =>cR w' I (BQ s p ao)/\aG (λx=>BS I x\/x=pb) w w') :=by
 obtain⟨Ag,cg,rfl,-,-⟩:=ZX.form;obtain⟨EO,cp,rfl,-,-⟩:=pY.form;obtain⟨Ac,cc,rfl⟩:=hc.form;obtain⟨dO,dep,abN,ag,gone⟩:=p;dsimp only at*;have⟨G,hG⟩:=eX gone.length;have⟨np,ei⟩:=eX ag.length;have⟨C,hC⟩:=eX ao.length;have agF:Ns w w .i64 (am Ag G cg) gone:=by rw[hG];exact ZX
 have wT:Ns w w .i64 (am EO np cp) ag:=by rw[ei];exact pY
 rw[<-hG,<-ei] at hp;rw[<-hG] at hga;rw[<-ei] at Tw;rw[<-hC];have HS0:Af (mL I pb dO dep sv (am EO np cp) (am Ag G cg) w (dN s (gone.take 0)) w):=⟨hB,hp,aG.refl _ _⟩;have HG:=Ba agF hga hG (by omega:G<=100000) AV;have Eo:=kH wT Tw ei Iq;have HC:=Ba (by rw[hC];exact hc:mI w (λx=>BS I x\/x=pb) (am Ac C cc) ao) hC (by omega:C<=10000) AW Wy;have HN:=kH e8 oJ uf qc;have tI:=aa Tv;have aaN:=hp.cell (bq oJ 3);clear hB e8 hp oJ uf qc pY Tw Iq ZX hga AU AV hc yY AW Wy Tv agF wT hG ei hC;go_in;go_wp2_with fail;clear aaN;go_loopw [21] (λiv wr=>∃k:Nat,iv= ac k/\Af (k<=G/\mL I pb dO dep sv (am EO np cp) (am Ag G cg) w (dN s (gone.take k)) wr)) (λiv _=>G - (intOf iv).toNat)
 .exact⟨0,rfl,lm,HS0.o⟩
 .obtain⟨k,rfl,HR⟩:=hrel;by_cases hk:k<G
  .obtain⟨b,o,rr,hv,-,-,fg,AX⟩:=HG.p1.cells (by rw[<-HG.p3];exact QO lm hk);obtain rfl:Ag=some (an b o):=No;have⟨x,hx⟩:=eX (gone.getD k 0);have Ww:gone[k]? =some x:=(by rw[hx,Qe,Qf (by rw[<-HG.p3];exact hk)];rfl);have gd:=HG.q4 x (Qi Ww);obtain⟨xn,SB⟩:∃n:Nat,x=(n:Int):=⟨x.toNat,Mx⟩;have z0:wr.cell? (an b (o+k))=some (ac xn):=(by rw[<-SB,hx];exact(HR.q1.aL.cell (p:=an b (o+k)) fg (HG.p2 b o G cg Mx rfl)).trans (AX k (by rw[<-HG.p3];exact hk)));have hdn:=GM _ wr I _ HR.q1.base xn (by rw[kD];exact HN.p1);have Nl:=DL Ww s;rw[SB,Xt] at Nl;rw[<-Nl] at hdn;have HDn:=aa hdn;obtain⟨u1,u2,u3⟩:=bR hk HG.p4 Fd;have Hu:=aa u1;have cU:=aa HR.o;have Hk:=aa hk;clear hv fg AX hx Ww gd SB hdn Nl HR hk u1;go_wp2_with(go_at_call 153;refine HDn.o.mono ?_;rintro e W2 ⟨rfl,h2,c2⟩;have H2:=aa (cU.q1.step h2 c2);clear h2 c2);exact⟨⟨k+1,yL,Hk.o,H2.o⟩,zad⟩
  .have cH:=QE HR.p1 (QC hk);have cO:=HR.q1;rw[cH,Qj (by rw[HG.p3];exact go)] at cO;have⟨D0,hD0⟩:=eX (dN s gone);rw[<-hD0] at cO;have HD0:=dK hD0 (by rw[hD0,kD];exact HN.p1:D0.broken=false);have HS1:=iJ cO HN.p2 HN.p3;obtain rfl:=cH.symm;clear HR hk cO hD0 HS0;go_wp2_with fail;go_loopw [31] (λiv wr=>∃k:Nat,iv= ac k/\Af (k<=C/\mL I pb (foldI bB 0 (ao.take k) (D0,dO)).2 dep sv (am EO np cp) (am Ag G cg) w (foldI bB 0 (ao.take k) (D0,dO)).1 wr/\(foldI bB 0 (ao.take k) (D0,dO)).2.length=256/\∀c∈(foldI bB 0 (ao.take k) (D0,dO)).2,Yh c)) (λiv _=>C - (intOf iv).toNat)
   .exact⟨0,rfl,lm,HS1.o⟩
   .obtain⟨k,rfl,HR⟩:=hrel;by_cases hk:k<C
    .obtain⟨c,jV⟩:∃c,ao[k]? =some c:=⟨_,Qf (by rw[<-HC.p2];exact hk)⟩;have OQ:=lW bB ao k c jV (D0,dO);have⟨st1,agb⟩:=eX ((foldI bB 0 (ao.take k) (D0,dO)).1);have⟨WJ,J2⟩:=eX ((foldI bB 0 (ao.take k) (D0,dO)).2);have YB:foldI bB 0 (ao.take k) (D0,dO)=(st1,WJ):=(by rw[agb,J2]);rw[YB] at HR OQ;have Eb:=HR.p2;have hls:=HC.p1.aL Eb.aL (λ_ h=>h);obtain⟨b,o,rr,A1,A2,m1,c1,m2,c2,hv,bO,y0,y1,y2,y3,kG⟩:=hls.lG jV;obtain rfl:Ac=some (an b o):=No;have jZ:=HC.p4 c (Qi jV);have Wy:=HC.q4 c (Qi jV);obtain⟨tj,ky,X3,b3⟩:=nW wr [ac c.ax,ac c.depth,am A1 m1 c1,am A2 m2 c2] 72;have⟨xb,eD⟩:=eX wr.heap.size;rw[<-eD] at X3;have hpt:=QG (λx=>x=pb) tj I st1 (Eb.base.on b3) c A1 A2 m1 c1 m2 c2 ((kG.on b3).mono (λx hx=> .inl hx)) jZ Wy;have⟨Er,zh⟩:=eX ((qh st1 c).2);have⟨bn,WB⟩:=eX ((qh st1 c).1);rw[<-zh,<-WB] at hpt;have JU:=aa hpt;have⟨fr,eo⟩:=eX c.ax;have⟨dp,eK⟩:=eX c.depth;rw[<-eo] at y0 ky X3 JU;rw[<-eK] at y1 ky X3 JU;obtain⟨l0,l1,l2,l3⟩:=mm X3;have H3:=aa (Eb.on b3);have mT:=dK ky.symm eD.symm;have HX:=kH hk (by rw[OQ,zh,WB];rfl:foldI bB 0 (ao.take (k+1)) (D0,dO)=(Er,sA WJ k bn)) HR.p3 HR.q3;obtain⟨u1,u2,u3⟩:=bR hk (Qh HC.p3 (show 10000<=100000 by decide)) Fd;have Hu:=aa u1;have k0:=Xh k;clear jV OQ agb J2 YB Eb hls hv bO kG jZ Wy ky X3 b3 eD hpt zh WB eo eK HR hk u1;go_upto_region 8 with fail;rw[mT.p1,mT.q1];clear y0 y1 y2 y3;go_upto_region 9 with(go_at_call 154;refine JU.o.mono ?_;rintro e W4 ⟨rfl,h4,c4,r4⟩;have H4:=aa (H3.o.step h4 c4);have R4:=aa r4;clear h4 c4 r4);have ID:Af (mL I pb (fS WJ k bn 0) dep sv (am EO np cp) (am Ag G cg) w Er W4):=(by rw[Gh];exact H4.o);have wk:=Hu.o;clear l0 l1 l2 l3 H3 mT JU;go_wp2_with fail;go_loopw [39] (λjv wr=>∃n:Nat,jv= ac n/\Af (n<=256/\mL I pb (fS WJ k bn n) dep sv (am EO np cp) (am Ag G cg) w Er wr)) (λjv _=>256 - (intOf jv).toNat)
     .exact⟨0,rfl,lm,ID.o⟩
     .obtain⟨n,rfl,HI⟩:=hrel;by_cases hn:n<256
      .obtain⟨x,hx⟩:∃x,WJ[n]? =some x:=⟨_,Qf (by rw[HX.p3];exact hn)⟩;obtain⟨g1,g2⟩:=Gi (i:=k) (b:=bn) hx;have n0:=Xh n;have n1:(n:Int)<256:=Mx;have w1:wrap64 ((n:Int)+1)=(n:Int)+1:=vW;have Hn:=dK hn w1;have z2:wr.cell? (an pb (n*3+2))=some (ac x.ao):=HI.q1.own.cell (gT n x g1 2 Fd);have z0:wr.cell? (an pb (n*3))=some (ac x.block):=HI.q1.own.cell (gT n x g1 0 Fd);have zf:=HI.q1.own.free (n*3);have qg:=aa HI.q1;have wM:=aa (And.intro g1 g2);by_cases hq:x.ao=k+1
       .have MD:(x.ao:Int)=(k:Int)+1:=(by omega);rw[MD] at z2;have HQ:=aa hq;clear hx g1 g2 w1 HI hn hq MD;go_wp2_with fail;have e1:=wM.q1;rw[Xo HQ.o] at e1;refine⟨⟨n+1,zaH,Hn.p1,?_⟩,Rp⟩;rw[e1];exact qg.o.set (n*3) (ac bn) (il n x {x with block:=bn} 0 _ wM.p1 rfl Fd)
       .have MD:¬(x.ao:Int)=(k:Int)+1:=(by omega);have hq3:((x.ao:Int)==(k:Int)+1)=false:=(by simpa using MD);have HQ:=aa hq;obtain⟨cm,oS⟩:∃y:Int,y=x.ao:=⟨_,rfl⟩;rw[<-oS] at z2 MD hq3;clear hx g1 g2 w1 HI hn hq oS z0 zf;go_wp2_with fail;have e1:=wM.q1;rw[Xd HQ.o] at e1;refine⟨⟨n+1,zaH,Hn.p1,?_⟩,Rp⟩;rw[e1];exact qg.o
      .have yW:=QE HI.p1 (QC hn);have HE:Af (mL I pb (foldI bB 0 (ao.take (k+1)) (D0,dO)).2 dep sv (am EO np cp) (am Ag G cg) w (foldI bB 0 (ao.take (k+1)) (D0,dO)).1 wr/\(foldI bB 0 (ao.take (k+1)) (D0,dO)).2.length=256/\∀c∈(foldI bB 0 (ao.take (k+1)) (D0,dO)).2,Yh c):=(by have h1:=HI.q1;rw[yW,Lm HX.p3] at h1;rw[HX.p2];have hR:=R4.o;exact⟨h1,by show(sA WJ k bn).length=256;unfold sA;rw[Qq];exact HX.p3,Rr HX.q3 Mx⟩);subst yW;clear HI hn;go_wp2_with fail;exact⟨⟨k+1,yL,HX.p1,HE.o⟩,CC⟩
    .have cH:=QE HR.p1 (QC hk);have cO:=HR.q1;rw[cH,Qj (by rw[HC.p2];exact go)] at cO;have⟨Tm,Bo⟩:=eX ((foldI bB 0 ao (D0,dO)).1);have⟨cl3,abd⟩:=eX ((foldI bB 0 ao (D0,dO)).2);rw[<-Bo,<-abd] at cO;have HF3:Af (foldI bB 0 ao (D0,dO)=(Tm,cl3)/\Tm.broken=false):=⟨by rw[Bo,abd],by rw[Bo,nY];exact HD0.q1⟩;have Ir:=yH wr pb cl3 dep sv (am EO np cp) (am Ag G cg) cO.1.own cO.2.1 HN.q3 cO.2.2;have HFl:=aa Ir;have j2:=aa cO;obtain rfl:=cH.symm;clear HR hk cO Bo abd Ir HS1;go_upto_region 17 with(go_at_call 149;refine HFl.o.mono ?_;rintro e Wf ⟨sv2,rfl,x5,s5,c5⟩;obtain⟨Bk,wH,Bc,rfl⟩:=s5.bu;have X5:=aa x5;have S5:=aa s5;have C5:=aa c5;clear x5 s5 c5);have⟨SL,ML⟩:=eX (dS dep cl3);have kr:SL.length=wH/\SL.length=2^dep:=(by obtain⟨A,c,e,-,-⟩:=S5.o.ns.form;injection e with e1 e2 e3;exact⟨by rw[ML];exact e2.symm,by rw[ML,fe]⟩);have pW:=Ba ML kr.1 kr.2 (by rw[kr.2];exact(rz HN.q3).2:SL.length<=256) (by rw[ML];exact RT j2.q2:(∀x∈SL,0<=x/\x<65536));have HSn:Af (Ns Wf Wf .u16 (am Bk wH Bc) SL/\Ap (λx=>BS I x\/x=pb) (am Bk wH Bc)):=⟨by rw[ML];exact S5.o.ns,jG S5.o (λx hx=>hx.elim (λe=>j2.p1.base.at_.lt x e) (λe=>by rw[e];exact j2.p1.own.lt))⟩;have dZ:Af (mL I pb cl3 dep (am Bk wH Bc) (am EO np cp) (am Ag G cg) w ((range 0).foldl (dE SL ag) Tm) Wf/\aG (λx=>BS I x\/x=pb) Wf Wf):=⟨⟨j2.p1.base.aL C5.o,X5.o,j2.p1.aL.trans (C5.o.mono λ_ _ e=> .inr e)⟩,aG.refl _ _⟩;have hrf:jJ SL ag Tm:=(by have h1:=tI.o;rw[<-HD0.p1,HF3.p1] at h1;rw[ML];exact h1);have HRf:=aa hrf;have oJ:=j2.p2;have je:=aa oJ;have Iq:np<=5:=(by rw[Eo.p3,Eo.q3];exact rT (rz HN.q3).2);have HPn:=aa Iq;clear ML kr hrf oJ Iq X5 S5 C5 HFl j2 tI;go_wp2_with fail;go_loopw [63] (λiv wr=>∃k:Nat,iv= ac k/\Af (k<=5/\mL I pb cl3 dep (am Bk wH Bc) (am EO np cp) (am Ag G cg) w ((range k).foldl (dE SL ag) Tm) wr/\aG (λx=>BS I x\/x=pb) Wf wr)) (λiv _=>5 - (intOf iv).toNat)
     .exact⟨0,rfl,Fd,dZ.o⟩
     .obtain⟨k,rfl,HR⟩:=hrel;by_cases hk:k<5
      .have⟨sk,JH⟩:=eX ((range k).foldl (dE SL ag) Tm);have UB:sk.broken=false:=(by rw[JH,pe];exact HF3.q1);have hrk:=HRf.o k hk;rw[<-JH] at hrk;have OM:(range (k+1)).foldl (dE SL ag) Tm=((jm SL ag sk k).cM (3+k) (ig SL ag sk k)).2:=(by rw[FW,<-JH,FM]);have cU:Af (mL I pb cl3 dep (am Bk wH Bc) (am EO np cp) (am Ag G cg) w sk wr/\aG (λx=>BS I x\/x=pb) Wf wr):=(by rw[JH];exact HR.q1);have af4:=cU.p1.own.cell (bq je.o 2);have af5:=cU.p1.own.cell (bq je.o 1);have k0:=Xh k;have k5:(k:Int)<5:=Mx;have w1:wrap64 ((k:Int)+1)=(k:Int)+1:=vW;have w3:wrap64 (3+(k:Int))=3+(k:Int):=vW;have Hw:=aa w1;have⟨arg,abi⟩:=eX (ig SL ag sk k);have⟨Zn,UF⟩:=eX (jm SL ag sk k);rw[<-abi,<-UF] at hrk OM;have tB:Zn.broken=false:=by
        rw[UF];unfold jm;split
        .split
         .rw[pL];exact UB
         .exact UB
        .exact UB
       have HSr:Af (∀W:Wo,cS (λx=>x=pb) W I Zn->Calls prog 59 #[I.b,ac (3+(k:Int)),ac arg] W (iF (ac 0) λw' =>cS (λx=>x=pb) w' I ((range (k+1)).foldl (dE SL ag) Tm)/\aG (BS I) W w')):=λW hW=>(by have h1:=w9 _ W I Zn hW tB (3+k) Mx Mx arg hrk;rw[show((3+k:Nat):Int)=3+(k:Int) by omega] at h1;rw[OM];exact h1);have HX:=iJ hk abi UF;have hlen:=Eo.p3;clear JH UB hrk OM w1 abi UF tB HR hk;by_cases cH:k<np
       .have kn:(k:Int)<np:=(by omega);have⟨pg,tz⟩:=eX (ag.getD k 0);obtain⟨bp,op,cp',hv,-,-,dh,hpc⟩:=Eo.p1.cells (by rw[<-hlen];omega);obtain rfl:EO =some (an bp op):=No;have zp:wr.cell? (an bp (op+k))=some (ac pg):=(by rw[tz];exact(cU.p1.aL.cell (p:=an bp (op+k)) dh (Eo.p2 bp op np cp Mx rfl)).trans (hpc k (by rw[<-hlen];exact cH)));have Tf:=dK (by rw[<-hlen];exact cH:k<ag.length) tz;clear hv dh hpc tz cH hlen;by_cases hz:pg=0
        .subst hz;have Ny:61*k<SL.length:=AC (by rw[oC,pW.p3,<-Eo.q3];have:=Tf.p1;omega);have Wh:=Sl.more (Sl.aL HSn.p1 cU.q1 go HSn.q1) cU.q1.size;have HPa:=aa (rS wr (am Bk wH Bc) SL Wh (Qh pW.p4 Fd) k Ny);have OK:(bG SL k).length<=61:=(by unfold bG;rw[Qu];omega);have gY:∀x∈bG SL k,0<=x/\x<65536:=λx hx=>pW.q4 x (by unfold bG at hx;exact Q6 (Za hx));have HEn:Af (∀v,Ns wr wr .u16 v (bG SL k)->Calls prog 58 #[io 4,v] wr (Made wr (encI 4 (bG SL k)))):=λv hv=>lX wr 4 (.inl rfl) v _ hv OK gY;have Ws:Zn=(sk.put (encI 4 (bG SL k))).2.2:=(by rw[HX.q2];unfold jm;rw[Xo Tf.p1,Xo Tf.q1.symm]);have WD:arg=(sk.put (encI 4 (bG SL k))).1:=(by rw[HX.p2];unfold ig;rw[Xo Tf.p1,Xo Tf.q1.symm]);have⟨r2,ZL⟩:=eX ((sk.put (encI 4 (bG SL k))).2.1);have JP:=lY (k:=4) (l:=bG SL k) IN OK;have Uj:Af (∀(W8:Wo) (g:Nat),ci wr W8->dn W8 g (encI 4 (bG SL k))->wr.heap.size<=g->Calls prog 57 #[I.b,el g 0 128 128] W8 (iF (.tuple #[ac arg,ac r2]) λw' =>cS (λx=>x=pb) w' I Zn/\aG (BS I) W8 w')):=λW8 g hW ho hg=>by rw[Ws,WD,ZL];exact vE _ W8 I sk (cU.p1.base.on hW) _ _ (tT ho JP.1 JP.2) (jD λe=>absurd (cU.p1.base.at_.lt _ e) (XV.2 hg))
         clear Ny Wh OK gY Ws WD ZL JP;go_upto_region 25 with(first
          |(go_at_call 150;refine HPa.o.mono ?_;rintro e W6 ⟨⟨v6,rfl,q6⟩,rfl⟩;obtain⟨A6,c6,rfl,-,-⟩:=q6.form;have HE6:=aa (HEn.o _ q6);clear q6)
          |(go_at_call 58;refine HE6.o.mono ?_;rintro e W8 ⟨g8,TD,rfl,o8,b8⟩;have abC:=aa (Uj.o W8 g8 b8 o8 TD);have B8:=aa b8;clear TD o8 b8))
         go_wp2_with(first
          |(go_at_call 57;refine abC.o.mono ?_;rintro e W9 ⟨rfl,h9,c9⟩;have HS9:=aa (HSr.o W9 h9);have C9:=aa c9;clear h9 c9)
          |(go_at_call 59;refine HS9.o.mono ?_;rintro e uh ⟨rfl,MM,EE⟩;have H10:=aa MM;have Yi:=aa (((aG.aZ B8.o).trans C9.o).trans EE);clear MM EE))
         exact zen
        .have Ws:Zn=sk:=(by rw[HX.q2];unfold jm;rw[Xo Tf.p1,Xd (λe=>hz (Tf.q1.trans e))]);have WD:arg=pg:=(by rw[HX.p2];unfold ig;rw[Xo Tf.p1,Xd (λe=>hz (Tf.q1.trans e)),Tf.q1]);have hS:=HSr.o wr (by rw[Ws];exact cU.p1.base);rw[WD] at hS;have HS:=aa hS;have hzb:(pg==0)=false:=(by simpa using hz);clear Ws WD hS;go_wp2_with(go_at_call 59;refine HS.o.mono ?_;rintro e uh ⟨rfl,MM,EE⟩;have H10:=aa MM;have Yi:=aa EE;clear MM EE);exact zen
       .have kn:¬(k:Int)<np:=(by omega);have bQ:¬k<ag.length:=(by rw[<-hlen];exact cH);have Ws:Zn=sk:=(by rw[HX.q2];unfold jm;rw[Xd bQ]);have WD:arg=0:=(by rw[HX.p2];unfold ig;rw[Xd bQ]);have hS:=HSr.o wr (by rw[Ws];exact cU.p1.base);rw[WD] at hS;have HS:=aa hS;clear Ws WD hS bQ cH hlen;go_wp2_with(go_at_call 59;refine HS.o.mono ?_;rintro e uh ⟨rfl,MM,EE⟩;have H10:=aa MM;have Yi:=aa EE;clear MM EE);exact zen
      .have cH:=QE HR.p1 (QC hk);subst cH;have HE:=aa HR.p2;clear HR hk dZ;go_wp2_with fail;go_end0;have e1:BQ s ⟨dO,dep,abN,ag,gone⟩ ao=(range 5).foldl (dE SL ag) Tm:=(by show(range 5).foldl (dE (dS dep (foldI bB 0 ao (dN s gone,dO)).2) ag) (foldI bB 0 ao (dN s gone,dO)).1=_;rw[<-HD0.p1,HF3.p1,pW.p1]);rw[e1];exact⟨rfl,HE.o.base.at_,HE.o.aL⟩
def gE(ls:List (Va×List Int))(k:Nat):Nat:=((ls.take k).flatMap Prod.snd).count 0
def Dh(ls:List (Va×List Int))(k:Nat)(p:Va×List Int)(h:ls[k]? =some p):gE ls (k+1)=gE ls k+p.2.count 0:=by unfold gE;rw[aA ls k p h,QP,Qbm];simp
def GR(l:Fr)(j:Nat)(x:Int)(h:l[j]? =some x):(l.take (j+1)).count 0=(l.take j).count 0+if x=0 then 1 else 0:=by rw[aA l j x h,Qbm,List.count_singleton];simp
def KO(w:Wo)(pb:Nat)(cells:List aM)(dep:Nat)(sv pv gv:Va)(ag:Fr)(h:aq w pb 154 (di cells dep sv pv gv))(hl:cells.length=256)(hp:Ns w w .i64 pv ag)(dh:ag.length<=100)(S:FV)(cv:Va)(ao:List ak)(hc:mI w S cv ao)(oJ:ao.length<=10000)(AW:∀c∈ao,c.blocks.length<=4096):
  Calls prog 80 #[pb,cv] w (iF (ac (qt ag ao:Nat)) λw' =>ci w w') :=by
 obtain⟨Ac,cc,rfl⟩:=hc.form;obtain⟨Ap,cp,rfl,-,-⟩:=hp.form;have⟨C,hC⟩:=eX ao.length;have⟨np,ei⟩:=eX ag.length;have Tx:Ns w w .i64 (am Ap np cp) ag:=ei▸hp;rw[<-ei] at h;rw[<-hC];have⟨Wd,dJ⟩:=eX w.drew;have AG:=aa dJ.symm;have bd:ci w Wd:=dJ▸(below_drewN (Xj w w) 1);have Uf:=dK bd.size bd;have aaR:=(bd.cell (p:=an pb 770) h.lt).trans (h.cell (bq hl 2));have HC:=kH (by rw[hC];exact hc.apart λx hx=>Or.inr hx:mI w (λx=>w.heap.size<=x) (am Ac C cc) ao) hC (by omega:C<=10000) AW;have⟨T,hT⟩:=eX (qt ag ao);rw[<-hT];have AL:Af (∀W:Wo,ci Wd W->Calls prog 146 #[am Ac C cc] W λr w' =>∃v' ls,r= .returned v'/\EG W w' v' ls/\ls.map Prod.snd=ao.map (·.blocks)/\ci W w'/\∀p∈ls,Go.Proofs.YtjjomjobllcleaaGreat.Ap (λx=>w.heap.size<=x) p.1):=λW hW=>sZ W _ _ ao (HC.p1.on (Uf.q1.trans (hW.mono Uf.p1))) (by rw[<-HC.p2];exact HC.p3);clear h hl hp hc oJ AW hC ei dJ bd;change Af _ at Tx dh hT;go_in;go_upto_region 2 with fail;go_cut [17,18,19] from 10 to 19 (λv17 v18 v19 W=>∃(A7:GB) (c7:Nat) (ls:List (Va×List Int)),v17= am A7 (C+1) c7/\v18= ac (C+1:Nat)/\v19= ac 0/\Af (EG w W (am A7 (C+1) c7) ls/\ls.length=C+1/\ls.map Prod.snd=ag::ao.map (·.blocks)/\ci w W))
 .refine bL (λj=>[].contains j) (λW=>ci Wd W) KJ ?_;rw[AG.o];have L:=Xj Wd Wd;refine tKz 0 10 pb pm (λW hW=>zM) L ?_;refine Pi ?_;refine tKz 1 11 pb pm (λW hW=>zM) L ?_;refine Pi ?_;refine tKz 2 12 (ro pb 770) pm (λW hW=>zM) L ?_;refine Pi ?_;refine tKz 3 13 (am Ap np cp) pm (λW hW=>by have h0_:=(hW.cell (XX aaR)).trans aaR;go_simp) L ?_;refine Pi ?_;refine tKz 5 15 (am Ac C cc) pm (λW hW=>zM) L ?_;refine Pi ?_;refine tKz 9 19 (ac 0) pm (λW hW=>zM) L ?_;refine Pi ?_;refine gR [4] [6] (λa0 i j a W=>∃x14 Tk,a=(a0.put (some 14) x14).put (some 16) Tk/\ci Wd W/\(1<=i->∃g,x14= el g 0 1 1/\Wd<=g/\aq W g 53 [am Ap np cp])/\(1<=j->∃(A:GB) (c:Nat) (ls:List (Va×List Int)),Tk= am A C c/\ls.map Prod.snd=ao.map (·.blocks)/\ls.length=C/\Sl W W 1 (am A ls.length c) ls.length (ls.map Prod.fst)/\∀p∈ls,Ns W w .i64 p.1 p.2)) 2 rfl KJ ⟨_,_,Ux zac,L,λh=>absurd h Fd,λh=>absurd h Fd⟩ ⟨?_,trivial⟩ ⟨?_,trivial⟩ ?_;all_goals clear L
  .rintro j a W ⟨x14,Tk,rfl,L,-,HB⟩;refine bJ rfl (λK hK=> ?_);obtain⟨V,hV,X,b⟩:=nW W [am Ap np cp] 53;simp only[Act.put,Qb,Qc,Qd];go_simp;rw[<-hV];refine hK.out _ _ ⟨λ_=>Pd L b,el W 0 1 1,Tk,?_,Pd L b,λ_=>⟨_,rfl,L.size,X⟩,λh=> ?_⟩
   .exact zef
   .obtain⟨A,c,ls,e,h1,h2,h3,h4⟩:=HB h;exact⟨A,c,ls,e,h1,h2,Sl.more (Sl.below h3 b) b.size,λp hp=>Ns.below (h4 p hp) (b.mono (Qh Uf.p1 L.size))⟩
  .rintro i a W ⟨x14,Tk,rfl,L,HA,-⟩;refine bJ rfl (λK hK=> ?_);simp only[Act.put,Qb,Qc,Qd];go_simp;go_at_call 146;refine Qaw (AL.o W L) ?_;rintro e V ⟨v6,ls6,rfl,l6,m6,b,a6⟩;obtain⟨A6,c6,rfl⟩:=l6.form;have e6:ls6.length=C:=(by have:=XF List.length m6;rw[Qq,Qq] at this;rw[this];exact HC.p2.symm);go_simp;refine hK.out _ _ ⟨λ_=>Pd L b,x14,am A6 C c6,?_,Pd L b,λh=>(HA h).imp λg hg=>⟨hg.1,hg.2.1,hg.2.2.on b⟩,λ_=>⟨A6,c6,ls6,rfl,m6,e6,Sl.bU l6.row,λp hp=>abZ ((l6.ns p hp).more b.size) (a6 p hp)⟩⟩;exact zef
  .rintro a V6 ⟨x14,Tk,rfl,L,HA,HB⟩;obtain⟨g4,rfl,G4d,X7⟩:=HA go;obtain⟨A6,c6,ls6,rfl,m6,e6,l7,M7⟩:=HB go;have G4:=Qh Uf.p1 G4d;clear HA HB;simp only[Act.put,Qb,Qc,Qd];refine ju 7 rfl KJ λK hK=> ?_;have P7:=Ns.below Tx.o (Uf.q1.trans (L.mono Uf.p1));have K7:EG w V6 (el g4 0 1 1) [(am Ap np cp,ag)]:=⟨⟨rfl,.inr ⟨g4,1,_,rfl,G4,X7,go,AN,rfl,rfl⟩⟩,λp hp=>by rw[Qx.1 hp];exact P7⟩;obtain⟨v7,V7,r7,k7,g7⟩:=xV V6 w _ _ K7 _ ls6 _ l7 M7 (by rw[e6];simp;have:=HC.q2;omega) (Qh Uf.p1 L.size) 242;obtain⟨A7,c7,rfl⟩:=k7.form;have e7:([((Value.slice Ap np cp:Va),ag)]++ls6).length=C+1:=(by rw[Qo,e6];exact Qcm 1 C);have L7:=L.grown g7 L.size (λj e=>by have e:=Qr e;rw[<-e];exact G4d);rw[e6] at r7;have L:=L7;refine gM (some 17) rfl zac (ea rfl rfl r7) ?_;refine hK.out _ _ (λ_=>L) ?_;clear hK K;refine Pi ?_;refine tKz 8 18 (ac (C+1:Nat)) pm (λW hW=>zM) L ?_;refine Pi ?_;refine bD KJ ?_ _;go_wp2;go_meet;exact⟨A7,c7,_,by rw[e7],rfl,rfl,by rw[e7] at k7;exact k7,e7,by rw[QL,m6];rfl,Uf.q1.trans (L.mono Uf.p1)⟩
 .obtain⟨A7,c7,ls,rfl,rfl,rfl,HR⟩:=hcut;have HTs:Af ((ls.flatMap Prod.snd).count 0=T/\T<=50000000):=by
   have h1:ls.flatMap Prod.snd=ag++dD ao:=(by have:ls.flatMap Prod.snd=(ls.map Prod.snd).flatten:=rfl;rw[this,HR.p3];rfl);refine⟨by rw[h1,hT.o];rfl,?_⟩;have h2:∀cs:List ak,(∀c∈cs,c.blocks.length<=4096)->(dD cs).length<=4096*cs.length:=by
    intro cs;induction cs with
    |nil=>intro _;exact lm
    |cons c r ih=>
     intro hh;have h3:=ih λc' TJ =>hh c' (Qs _ TJ);have h4:=hh c (Qm ..);have e:dD (c::r)=c.blocks++dD r:=rfl;rw[e,Qo,QF];omega
   have h3:=h2 ao HC.q3;rw[hT.o];have h4:qt ag ao<=(ag++dD ao).length:=Qgi;rw[Qo] at h4;have:=dh.o;have:=HC.p3;have:=HC.p2;omega
  have Hm:Af (∀k,gE ls k<=T):=λk=>by
   rw[<-HTs.p1];unfold gE
   conv=>rhs;rw[<-XW k ls,QP,Qbm]
   exact XM _ _
  have Hml:Af (∀p∈ls,p.2.length<=4096):=λp hp=>by
   have h1:p.2∈ls.map Prod.snd:=QU.2 ⟨p,hp,rfl⟩;rw[HR.p3] at h1;obtain h2|h2:=QA.1 h1
   .rw[h2];exact Qh dh.o Fd
   .obtain⟨c,hc,h3⟩:=QU.1 h2;rw[<-h3];exact HC.q3 c hc
  obtain⟨AK,HNs,lD⟩:=qC HR.q3 HR.p1 HR.p2;have hCn:=HC.p3;clear HR aaR;go_wp2;go_loopw [19,5] (λi s wr=>∃k:Nat,i= ac k/\s= ac (gE ls k)/\Af (k<=C+1/\wc=wr)) (λi _ _=>(C+1) - (intOf i).toNat)
  .exact⟨0,rfl,rfl,lm,rfl⟩
  .obtain⟨k,rfl,rfl,HR⟩:=hrel;obtain⟨hk,hwr⟩:=HR.o;subst hwr;clear HR;by_cases aJ:k<C+1
   .obtain⟨p,qZ⟩:∃p,ls[k]? =some p:=⟨_,Qf (by rw[lD.o];exact aJ)⟩;obtain⟨pv,pl⟩:=p;obtain⟨Aq,cq,hpw,-,-⟩:=(HNs.o.ns _ (Qi qZ)).form;have pY:pv= am Aq pl.length cq:=hpw;clear hpw;subst pY;obtain⟨b,o,c',Zx,-,-,dL⟩:=(Sl.bU HNs.o.row).row (by rw[lD.o];omega);have hv:A7=some (an b o):=(by injection Zx);clear Zx;subst hv;have y0:=dL.2 k _ zcn;have⟨m,hm⟩:=eX pl.length;have AJ:=aa (HNs.o.ns _ (Qi qZ));rw[<-hm] at y0 AJ;have w2:wrap64 ((k:Int)+1)=(k:Int)+1:=vW;have i0:=Xh k;have i1:(k:Int)<((C+1:Nat):Int):=Mx;have i2:(k:Int)<(C:Int)+1:=Mx;have hz:=Dh ls k _ qZ;have hzT:=Hm.o (k+1);rw[hz] at hzT;have Hz:=kH hz (Qh hzT HTs.q1) hm aJ;have hm6:m<=1000000:=hm▸(Qh (Hml.o _ (Qi qZ)) Fd);clear qZ dL hm hz hzT hk aJ;change Af _ at w2 hm6;go_wp2;go_loop [25,5] (λi s=>∃j:Nat,j<=m/\i= ac j/\s= ac ((gE ls k+(pl.take j).count 0:Nat):Int)) (λi _=>m - (intOf i).toNat)
    .exact⟨0,lm,rfl,by rw[Zq];rfl⟩
    .obtain⟨j,hj,rfl,rfl⟩:=hrel;by_cases JK:j<m
     .obtain⟨b2,o2,c2,af8,-,-,-,aH⟩:=AJ.o.cells (by rw[<-Hz.p3];omega);have AO:Aq=some (an b2 o2):=(by injection af8);clear af8;subst AO;have⟨x,hx⟩:=eX (pl.getD j 0);have oP:pl[j]? =some x:=(by rw[hx,Qe,Qf (Hz.p3▸JK)];rfl);have z0:=aH j (Hz.p3▸JK);rw[<-hx] at z0;have w3:wrap64 ((j:Int)+1)=(j:Int)+1:=(by have:=hm6.o;exact vW);have j0:=Xh j;have j1:(j:Int)<m:=Mx;have hc:=GR pl j x oP;have oJ:(pl.take j).count 0+1<=1000001:=(by have h1:(pl.take j).count 0<=(pl.take j).length:=Qgi;have h2:=hm6.o;rw[Qu] at h1;omega);have⟨q,hq⟩:=eX (gE ls k+(pl.take j).count 0);have w4:wrap64 ((q:Int)+1)=(q:Int)+1:=(by have h1:=Hz.p2;have h2:gE ls k<=50000000:=Mx;exact vW);have Hq:=iJ hq hc JK;have NG:=aa w3;have Hw4:=aa w4;rw[<-hq];clear aH hx oP hc oJ hq hj JK w3;by_cases gd:x=0
      .rw[gd] at z0;go_wp2;exact⟨⟨j+1,Hq.q2,by first|rfl|(rw[NG.o];rfl),by rw[Hq.p2,Xo gd,<-XB,<-Hq.p1];first|rfl|(rw[Hw4.o];rfl)⟩,zbG⟩
      .go_wp2;exact⟨⟨j+1,Hq.q2,by first|rfl|(rw[NG.o];rfl),by rw[Hq.p2,Xd gd,XC,<-Hq.p1]⟩,zbG⟩
     .have agB:=QE hj (QC JK);have e1:gE ls k+(pl.take j).count 0=gE ls (k+1):=(by rw[agB,Qj (Hz.p3▸go),Hz.p1]);rw[e1];have Wp:¬(j:Int)<m:=Mx;clear JK agB e1 hj;go_wp2;exact⟨⟨_,_,_,_,⟨k+1,rfl,rfl,Hz.q3⟩,rfl,rfl,rfl,by first|rfl|(rw[w2.o];rfl)⟩,by first|exact al Hz.q3|(rw[w2.o];exact al Hz.q3)⟩
   .have SJ:=QE hk (QC aJ);subst SJ;have e1:gE ls (C+1)=T:=(by rw[gE,Qj (lD.o▸go),HTs.p1]);rw[e1];clear e1 hk aJ;go_wp2;(try rw[Qv]);go_ret;exact⟨rfl,AK.o⟩
variable{s:aX}{ae:List (Nat × Int)}
def acx{S:FV}{v:Va}(hS:∀g,v.ownBlock=some g->¬S g):Ap S v:=λb o n' c _ e=>hS b zcG
def VG{w:Wo}{I:bF}(hB:cR w I s)(hd:BW s dep ae at_)(hg:∀c∈gone,ru c):∀x∈(bt dep ae at_ gone ao).gone,0<=x/\x<4096:=by
 have hn:=hB.n0;have kJ:∀x∈at_,0<=x/\x<4096:=λx hx=>by obtain⟨i,hi,rfl⟩:=Qbu hx;obtain⟨-,k,h1,h2,h3,-⟩:=hd.rt i hi;rw[Qe,Qf hi] at h1;have h1:at_[i]=(k:Int):=h1;omega
 have JM:∀x∈iY gone ao,0<=x/\x<4096:=λx hx=>by unfold iY at hx;obtain⟨c,hc,hx⟩:=QT.1 hx;exact(hg c hc).pos x ((Qia.1 hx).1)
 have hf:∀(ag l:Fr) (i:Nat) (g:Fr),(∀x∈l,0<=x/\x<4096)->(∀x∈g,0<=x/\x<4096)->∀x∈foldI (dA ag) i l g,0<=x/\x<4096:=by
  intro ag l;induction l with
  |nil=>intro i g _ hg;exact hg
  |cons a r ih=>
   intro i g hl hg;refine ih (i+1) _ (λx hx=>hl x (Qs _ hx)) (λx hx=> ?_);unfold dA at hx;split at hx
   .rcases Qz.1 hx with hx|hx
    .exact hg x hx
    .rw[Qx.1 hx];exact hl a Qm
   .exact hg x hx
 exact hf _ _ _ _ kJ JM
def RO(kJ:at_.length<=5)(hg:∀c∈gone,ru c)(AU:gone.length<=20):(bt dep ae at_ gone ao).gone.length<=100000:=by have h1:=rW (ao:=ao) hg;have h2:=Qes 4096 AU;have h3:=zF (bt dep ae at_ gone ao).ag at_ 0 (iY gone ao);have h4:(bt dep ae at_ gone ao).gone=foldI (dA (bt dep ae at_ gone ao).ag) 0 at_ (iY gone ao):=rfl;rw[h4];omega
def RX{cells:List aM}{n:Nat}(h:∀c∈cells,c.depth<=n):jC cells<=n:=by
 unfold jC;have h2:∀(l:List aM) (m:Nat),m<=n->(∀c∈l,c.depth<=n)->l.foldl (λm c=>max m c.depth) m<=n:=by
  intro l;induction l with
  |nil=>intro m hm _;exact hm
  |cons a r ih=>
   intro m hm hl;exact ih _ (Nat.max_le.2 ⟨hm,hl a Qm⟩) (λc hc=>hl c (Qs _ hc))
 exact h2 cells 0 lm h
def oY(s:aX)(x:Int):Bool:=s.ik x.toNat&&(s.t.get x.toNat==1)
def LK{l:Fr}{k:Nat}{x:Int}(h:l[k]? =some x):((l.take (k+1)).countP (oY s):Int)=((l.take k).countP (oY s):Nat)+(if oY s x then 1 else 0):=by rw[aA l k x h,Qcd,List.countP_singleton];split<;>simp
def Ks(w:Wo)(I:bF)(s:aX)(hB:cR w I s)(e8:s.broken=false)(dep:Nat)(ae:List (Nat×Int))(at_:Fr)(cs:List ak)(hk:MU s dep ae at_ cs)(gv cv:Va)(gone ao:List ak)(hg:mI w (BS I) gv gone)(hc:mI w (BS I) cv ao)
  (AU:gone.length<=20) (oJ:ao.length<=10000) (JM:∀c∈gone,qo c) (AW:∀c∈ao,qo c) (mW:(dD ao).length<=100000)
  (Wy:kW cs gone ao=true->∀c∈ao,∀sh∈c.ah,∀n:Int,0<=n->n<4096->bC ⟨c.depth,n,sh.es⟩=true)
  (Tv:kW cs gone ao=true->(qt (bt dep ae at_ gone ao).ag ao:Int)<=gO s (bt dep ae at_ gone ao).gone->jJ (dS (bt dep ae at_ gone ao).dep (foldI bB 0 ao (dN s (bt dep ae at_ gone ao).gone,(bt dep ae at_ gone ao).cells)).2) (bt dep ae at_ gone ao).ag (foldI bB 0 ao (dN s (bt dep ae at_ gone ao).gone,(bt dep ae at_ gone ao).cells)).1):
  Calls prog 28 #[I.b,gv,cv] w (iF (ac (oV s dep ae at_ cs gone ao).1) λw' =>cR w' I (oV s dep ae at_ cs gone ao).2/\aG (BS I) w w') :=by
 obtain⟨Ag,cg,rfl⟩:=hg.form;obtain⟨Ac,cc,rfl⟩:=hc.form;have⟨G,hG⟩:=eX gone.length;have⟨C,hC⟩:=eX ao.length;have jY:mI w (BS I) (am Ag G cg) gone:=by rw[hG];exact hg
 have pk:mI w (BS I) (am Ac C cc) ao:=by rw[hC];exact hc
 rw[<-hG,<-hC];have HM:=aa (la w I s hB e8);have Td:=aa (oz w I s hB dep ae at_ hk.dir);have H:=Ba hB hk jY pk e8;have HL:=hI7 hG hC (by omega:G<=20) (by omega:C<=10000) JM AW mW;have HF:=dK Wy Tv;clear hB e8 hk hg hc jY pk AU oJ JM AW mW Wy Tv hG hC;go_in;go_upto_region 5 with(first
  |(go_at_call 23;refine HM.o.mono ?_;rintro e W1 ⟨rfl,rfl⟩)
  |(go_at_call 21;refine Td.o.mono ?_;rintro e W2 ⟨dv,av,rfl,d2,a2,b2⟩;obtain⟨Ad,nd,cd,rfl⟩:=d2.bu;obtain⟨Aa,na,ca,rfl⟩:=a2.bu;have D2:=aa d2;have A2:=aa a2;have B2:=aa b2;clear d2 a2 b2))
 have⟨W3,cD⟩:=eX (W2.alloc (.cells #[io dep,am Ad nd cd] 66));have⟨db,iU⟩:=eX W2.heap.size;rw[<-cD,<-iU];have b3:ci W2 W3:=zbr;have EF:=Pd B2.o b3;have X3:aq W3 db 66 [io dep,am Ad nd cd]:=by rw[cD,iU];exact ar W2 [_,_] _
 have ue:=dU D2.o.ns b3;have AE:=dU A2.o.ns b3;have NP:=LP W3 I s (H.p1.on EF) dep ae at_ cs H.p2 (am Ad nd cd) ue (BS I) (am Ag G cg) (am Ac C cc) gone ao (H.p3.on EF) (H.p4.on EF) zct zbp HL.p5 HL.p6;obtain⟨x0,x1⟩:=gh X3;have H3:=kH X3 ue AE EF;clear cD iU b3 EF X3 ue AE B2 D2 A2 HM Td
 cases jZ:kW cs gone ao with
 |false=>
  rw[jZ] at NP;have NP:=aa NP;have Hsv:Af (oV s dep ae at_ cs gone ao=(2,s)):=by show _=_;unfold oV;rw[Xo jZ]
  clear jZ HF;go_wp2_with(go_at_call 76;refine NP.o.mono ?_;rintro e W4 ⟨rfl,b4⟩;have B4:=aa b4;clear b4);try rw[Qv]
  go_ret;rw[Hsv.o];have bb:=Pd H3.q3 B4.o;exact zfT
 |true=>
  rw[jZ] at NP;have NP:=aa NP;have Hft:=aa jZ;clear jZ;go_upto_region 10 with(go_at_call 76;refine NP.o.mono ?_;rintro e W4 ⟨rfl,b4⟩;have B4:=aa b4;clear b4);clear x0 x1 NP;have b04:=Pd H3.q3 B4.o;have X4:=H3.p1.on B4.o;obtain⟨x0,x1⟩:=gh X4;have dh:=zV W4 dep ae at_ H.p2.dir.oH (am Ad nd cd) (am Aa na ca) (dU H3.p2 B4.o) (dU H3.p3 B4.o) H.p2.dir.np (BS I) (am Ag G cg) (am Ac C cc) gone ao (H.p3.on b04) (H.p4.on b04) zct zbp (λc hc=>(HL.p5 c hc).kp) HL.p6 HL.q6;have uc:=VG H.p1 H.p2.dir (ao:=ao) (λc hc=>(HL.p5 c hc).kp);have hgn:=RO (dep:=dep) (ae:=ae) (ao:=ao) H.p2.dir.af6.2 (λc hc=>(HL.p5 c hc).kp) zct;have⟨PL,hPL⟩:=eX (bt dep ae at_ gone ao);have hsv:oV s dep ae at_ cs gone ao=if gO s PL.gone<qt PL.ag ao then(90,s) else(0,BQ s PL ao):=by rw[hPL];unfold oV;rw[Xd (by rw[Hft.o];decide)]
  have uf:PL.cells.length=256/\(∀c∈PL.cells,Yh c)/\PL.dep<=8/\PL.ag.length=kB (2^PL.dep):=by rw[hPL];have h1:=CZ (yP H.p2.dir.oH) ao HL.p6;refine⟨by show(cJ _ _).length=256;unfold cJ;rw[jt,cX],λc hc=>(h1 c hc).2,RX λc hc=>(h1 c hc).1,?_⟩;show(jF _ _ _).length=_;rw[vF,fe];rfl
  rw[<-hPL] at dh uc hgn;have Bj:=Nv hsv uf uc hgn (HF.p1 Hft.o) (by rw[hPL];exact HF.q1 Hft.o:((qt PL.ag ao:Int)<=gO s PL.gone->jJ (dS PL.dep (foldI bB 0 ao (dN s PL.gone,PL.cells)).2) PL.ag (foldI bB 0 ao (dN s PL.gone,PL.cells)).1));have HPn:=aa dh;have Uo:=aa b04;clear dh uc hgn hsv uf hPL X4 b04 HF;go_upto_region 11 with(go_at_call 77;refine HPn.o.mono ?_;rintro e W5 ⟨pb,sv,pv,gv,rfl,pb5,p5,s5,v5,g5,b5⟩;obtain⟨EO,np,cp,rfl⟩:=v5.bu;obtain⟨Ao,no,co,rfl⟩:=g5.bu;have P5:=aa (And.intro pb5 p5);have V5:=aa v5;have G5:=aa g5;have B5:=aa b5;clear pb5 p5 s5 v5 g5 b5);have SV:=Pd Uo.o B5.o;have mU:=iJ SV (H.p1.on SV) (H.p4.on SV);have ZJ:=ou W5 I s mU.p2;have⟨rm,UC⟩:=eX s.room;rw[<-UC] at ZJ;have HRm:=aa ZJ;have agf:0<=rm/\rm<=4096:=by have hk:=mU.p2.fh.ok.frees_le;rw[UC];unfold aX.room aE.room kU aR;unfold aX.len;have hn:=mU.p2.n0;rw[Xd Mx,Xd Mx];omega
  have ahi:Af (rm=s.room/\0<=rm/\rm<=4096):=⟨UC,agf⟩;have aaN:=P5.q1.cell (bq Bj.o.2.1.1 3);have JJ:no=PL.gone.length:=by obtain⟨A',c',h1,-,-⟩:=G5.o.ns.form;injection h1
  have Ul:=dK JJ (by rw[JJ];exact Bj.p4:no<=100000);clear SV ZJ UC agf JJ HPn x0 x1;go_wp2_with(go_at_call 6;refine HRm.o.mono ?_;rintro e W6 ⟨rfl,rfl⟩);clear aaN;go_loopw [13,50] (λrv iv wr=>∃k:Nat,iv= ac k/\rv= ac (rm+((PL.gone.take k).countP (oY s):Nat))/\wr=W5/\Af (k<=no)) (λ_ iv _=>no - (intOf iv).toNat)
  .exact⟨0,rfl,Sv,rfl,lm⟩
  .obtain⟨k,rfl,rfl,rfl,HR⟩:=hrel;by_cases hk:k<no
   .obtain⟨b,o,rr,hv,-,-,fg,AX⟩:=G5.o.ns.cells (by rw[<-Ul.p1];exact QO lm hk);obtain rfl:Ao=some (an b o):=No;have⟨x,hx⟩:=eX (PL.gone.getD k 0);have Ww:PL.gone[k]? =some x:=(by rw[hx,Qe,Qf (by rw[<-Ul.p1];exact hk)];rfl);have gd:=Bj.p3 x (Qi Ww);obtain⟨xn,SB⟩:∃n:Nat,x=(n:Int):=⟨x.toNat,Mx⟩;have z0:wr.cell? (an b (o+k))=some (ac xn):=(by rw[<-SB,hx];exact AX k (by rw[<-Ul.p1];exact hk));have jZ:=LK (s:=s) Ww;have hfp:oY s x=(s.ik xn&&(s.t.get xn==1)):=(by unfold oY;rw[SB,Xt]);rw[hfp] at jZ;have eo:=vM wr I s mU.p2 xn Mx;have yY:=Ai wr I s mU.p2 (xn:Int);rw[Xo (Xh xn),Xt] at yY;have⟨q,hq⟩:=eX (s.t.get xn);have⟨F,hF⟩:=eX (s.ik xn);rw[<-hq] at yY jZ;rw[<-hF] at eo jZ;obtain⟨m0,xB⟩:∃y:Nat,y=(PL.gone.take k).countP (oY s):=⟨_,rfl⟩;obtain⟨m1,Az⟩:∃y:Nat,y=(PL.gone.take (k+1)).countP (oY s):=⟨_,rfl⟩;have Wq:m0<=100000:=(by have h1:=Qdm (p:=oY s) (l:=PL.gone.take k);have h2:=Bj.p4;rw[Qu] at h1;omega);rw[<-xB,<-Az] at jZ;rw[<-xB];have EM:=aa eo;have Yc:=aa yY;have Hft:=aa jZ;have Hm1:=aa Az;obtain⟨u1,u2,u3⟩:=bR hk Ul.q1 Fd;have hwm:wrap64 (rm+(m0:Int)+1)=rm+(m0:Int)+1:=(by have h1:=ahi.q1;exact vW);have Hwm:=aa hwm;have Hu:=aa u1;have Hk:=aa hk;clear hv fg AX hx Ww gd SB hfp eo yY hq hF xB Az Wq jZ HR hk u1 hwm
    cases F with
    |false=>
     have hr:(m1:Int)=m0:=(by have:=Hft.o;exact zdO);have Hr:=aa hr;clear hr;go_wp2_with(go_at_call 78;refine EM.o.mono ?_;rintro e W2 ⟨rfl,rfl⟩);exact zga
    |true=>
     have hwm:=Hwm.o;by_cases ZN:q=1
     .have hr:(m1:Int)=m0+1:=by have:=Hft.o;rw[ZN] at this;exact zdO
      have Hr:=aa hr;clear hr;subst ZN;go_wp2_with(first
       |(go_at_call 78;refine EM.o.mono ?_;rintro e W2 ⟨rfl,rfl⟩)
       |(go_at_call 79;refine Yc.o.mono ?_;rintro e W2 ⟨rfl,rfl⟩))
      exact⟨⟨k+1,yL,by rw[<-Hm1.o,Hr.o];first|(rw[Qft];done)|(rw[<-Qft,Hwm.o];done)|(rw[Hwm.o,Qft];done),If,Hk.o⟩,zad⟩
     .have hr:(m1:Int)=m0:=(by have:=Hft.o;have h2:(q==1)=false:=(by simpa using ZN);rw[h2] at this;exact zdO);have Hr:=aa hr;clear hr;have hqb:(q==1)=false:=by simpa using ZN
      go_wp2_with(first
       |(go_at_call 78;refine EM.o.mono ?_;rintro e W2 ⟨rfl,rfl⟩)
       |(go_at_call 79;refine Yc.o.mono ?_;rintro e W2 ⟨rfl,rfl⟩))
      exact zga
   .have cH:=QE HR.o (QC hk);have hfa:rm+((PL.gone.take k).countP (oY s):Nat)=gO s PL.gone:=(by rw[cH,Qj (by rw[Ul.p1];exact go),ahi.p1];rfl);rw[hfa];have⟨fa,aa6⟩:=eX (gO s PL.gone);have Wl:=KO wr pb PL.cells PL.dep sv (am EO np cp) (am Ao no co) PL.ag P5.q1 Bj.o.2.1.1 V5.o.ns (by rw[Bj.o.2.1.2.2.2];exact Qh (rT (Qcr (by decide:0<2) Bj.o.2.1.2.2.1)) Fd) (BS I) (am Ac C cc) ao mU.q2 zbp (λc hc=>(HL.p6 c hc).kp.y7);have⟨pu,aaW⟩:=eX (qt PL.ag ao);rw[<-aaW] at Wl;rw[<-aa6];have Uj:=aa Wl;have HFp:=dK aa6 aaW;subst cH;clear hfa aa6 aaW Wl HR hk;by_cases aJ:fa<pu
    .go_wp2_with(go_at_call 80;refine Uj.o.mono ?_;rintro e W6 ⟨rfl,b6⟩;have B6:=aa b6;clear b6);(try rw[Qv]);go_ret;have bb:=Pd mU.p1 B6.o;rw[Bj.p1,Xo (by rw[<-HFp.p1,<-HFp.q1];exact aJ)];exact zfT
    .have pj:=Int.not_lt.1 aJ;have Hge:=aa pj;go_upto_region 20 with(go_at_call 80;refine Uj.o.mono ?_;rintro e W6 ⟨rfl,b6⟩;have B6:=aa b6;clear b6);have hB6:=Pd mU.p1 B6.o;have xy:=Qh Uo.o.size P5.p1;have hp6:=P5.q1.on B6.o;have JP:cS (λx=>x=pb) W6 I s:=H.p1.new hB6 (λx hx=>by rw[hx];exact xy) (λx hx=>by rw[hx];exact hp6.lt);have aJ:=H.p1.lt;have pt:∀{e:Fy} {kd:IntKind} {v:Va} {xs:Fr},aB wr W4 e kd v xs->154≠e->Ap (λx=>BS I x\/x=pb) v:=λ{e kd v xs} ho he=>acx λg hg hx=>by
      have h1:=(pG ho hg).1;obtain hx|hx:=hx
      .have:=aJ g hx;have:=Uo.o.size;omega
      .exact P5.q1.not_row he ho (by rw[hg,hx])
     have iH:mI W6 (λx=>BS I x\/x=pb) (am Ac C cc) ao:=(H.p4.apart (λx hx=>hx.imp id λe=>by rw[e];exact xy)).on hB6;have hd:=LY W6 I s pb PL sv (am EO np cp) (am Ao k co) ao (am Ac C cc) JP H.q4 hp6 Bj.o.2.1.1 Bj.o.2.1.2.1 Bj.o.2.1.2.2.1 (aB.on V5.o B6.o).ns (pt V5.o Fd) Bj.o.2.1.2.2.2 (aB.on G5.o B6.o).ns (pt G5.o Fd) Bj.p4 (λx hx=>(Bj.p3 x hx).1) iH zbp HL.p6 Bj.p5 (Bj.q5 (by rw[<-HFp.p1,<-HFp.q1];exact pj));have HDn:=aa hd;have HPb:=dK xy hB6;clear hB6 xy hp6 JP aJ pt iH hd;go_wp2_with(go_at_call 81;refine HDn.o.mono ?_;rintro e W7 ⟨rfl,h7,c7⟩;have H7:=aa h7;have C7:=aa c7;clear h7 c7);go_ret;rw[Bj.p1,Xd (by rw[<-HFp.p1,<-HFp.q1];exact Int.not_lt.2 Hge.o)];refine⟨rfl,H7.o,(aG.aZ (S:=BS I) HPb.q1).iR C7.o (λ_ _ h=>h) λx hx h=> ?_⟩;obtain h|h:=h
     .exact h
     .rw[h] at hx;exact absurd hx (XV.2 HPb.p1)
def ab3{w:Wo}{S:FV}{g:Nat}{bv sv:Va}(hx:aq w g 72 [ac c.ax,ac c.depth,bv,sv])(hc:jw w S (.agg #[ac c.ax,ac c.depth,bv,sv]) c)(hg:¬S g):mI w S (el g 0 1 1) [c]:=by have h1:w.ownsRow 0 72 4 (el g 0 1 1) 1 [ac c.ax,ac c.depth,bv,sv]:=⟨rfl,.inr ⟨g,1,_,rfl,lm,hx,go,AN,rfl,rfl⟩⟩;exact⟨[(c,bv,sv)],Sl.bU h1,jD hg,λm hm=>by rw[Qx] at hm;subst hm;exact hc,rfl⟩
def VK(c:ak)(ps:List (ay×Va))(e:aD)(h:ps.map Prod.fst=c.ah):(ps.any λp=>decide (e∈p.1.es))=decide (e∈c.all):=by
 rw[XD,Xb,XS];rw[ak.all,<-h,Qfv];constructor
 .rintro⟨p,hp,he⟩;exact QT.2 ⟨p,hp,XQ he⟩
 .intro he;obtain⟨p,hp,he⟩:=QT.1 he;exact⟨p,hp,Xa he⟩
structure CK(s:aX)(dep:Nat)(ae:List (Nat×Int))(at_:Fr)(cs:List ak):Prop where
 live:s.broken=false
 ok:MU s dep ae at_ cs
 ch:∀c∈cs,ur c
def ahO{s:aX}{dep:Nat}{ae:List (Nat×Int)}{at_:Fr}{cs:List ak}(h:CK s dep ae at_ cs)(hc:c∈cs):qo c:=by have hG:=h.ch c hc;exact⟨⟨hG.ok.len,Qh (fL cs c hc) h.ok.many,hG.Ej⟩,hG.ok.d8,hG.ok.f256,hG.ok.ne⟩
def zq(s:aX)(dep:Nat)(ae:List (Nat×Int))(at_:Fr)(cs:List ak)(e:aD):Int×aX:=
 if e.block=0\/(s.t.len:Int)<=e.block then(2,s)
 else match Bf cs (bz e) with
 |none=>(0,s)
 |some c=>if e∈c.all then(0,s) else oV s dep ae at_ cs [c] (cP 9 c e)
def ahs(s:aX)(dep:Nat)(ae:List (Nat×Int))(at_:Fr)(gone ao:List ak):Prop:=
 (dD ao).length<=100000/\(∀c∈ao,qo c)/\(∀c∈ao,∀sh∈c.ah,∀n:Int,0<=n->n<4096->bC ⟨c.depth,n,sh.es⟩=true)/\
  ((qt (bt dep ae at_ gone ao).ag ao:Int)<=gO s (bt dep ae at_ gone ao).gone->jJ (dS (bt dep ae at_ gone ao).dep (foldI bB 0 ao (dN s (bt dep ae at_ gone ao).gone,(bt dep ae at_ gone ao).cells)).2) (bt dep ae at_ gone ao).ag (foldI bB 0 ao (dN s (bt dep ae at_ gone ao).gone,(bt dep ae at_ gone ao).cells)).1)
def YV(s:aX)(dep:Nat)(ae:List (Nat×Int))(at_:Fr)(cs:List ak)(e:aD):Prop:=
 ∀c,Bf cs (bz e)=some c->e∉c.all->¬(e.block=0\/(s.t.len:Int)<=e.block)->ahs s dep ae at_ [c] (cP 9 c e)
def vm(w:Wo)(I:bF)(s:aX)(h:cR w I s)(dep:Nat)(ae:List (Nat×Int))(at_:Fr)(cs:List ak)(hk:CK s dep ae at_ cs)(e:aD)(hu:bI e.print)(hb:bX e.block)(hao:YV s dep ae at_ cs e):
  Calls prog 8 #[I.b,ip e.print,gc e.block] w (iF (ac (zq s dep ae at_ cs e).1) λw' =>cR w' I (zq s dep ae at_ cs e).2/\aG (BS I) w w') :=by
 obtain⟨j,c,hj,hit,ej⟩:=sX w I s h dep ae at_ cs hk.ok e.print hu;have hit:bY c.ax c.depth (bz e)=true:=hit;have oS:=Qi hj;have kJ:=hk.ok.aaP.find oS hit;have HM:=aa (la w I s h hk.live);have uo:=aa ej;have H:Af (cR w I s/\CK s dep ae at_ cs/\bI e.print/\bX e.block):=⟨h,hk,hu,hb⟩;have HAo:=aa hao;have HC:Af (c∈cs/\Bf cs (bz e)=some c/\bY c.ax c.depth (bz e)=true):=⟨oS,kJ,hit⟩;have UN:zq s dep ae at_ cs e=if e.block=0\/(s.t.len:Int)<=e.block then(2,s) else if e∈c.all then(0,s) else oV s dep ae at_ cs [c] (cP 9 c e):=by unfold zq;rw[kJ]
 have HA:=aa UN;have⟨X,hX⟩:=eX (zq s dep ae at_ cs e);rw[<-hX] at HA|-;obtain⟨pr,bk⟩:=e;dsimp only at*;have⟨L,hL⟩:=eX s.t.len;rw[<-hL] at HA;have HL:=aa hL;clear h hk hu hb hao hj hit ej oS kJ UN hX hL;go_in;go_upto_region 5 with(first
  |(go_at_call 23;refine HM.o.mono ?_;rintro e W1 ⟨rfl,rfl⟩)
  |(go_at_call 24;refine uo.o.mono ?_;rintro e W2 ⟨bv,sv,ps,rfl,bo,so,hp,b2⟩;obtain⟨Ab,nb,cb,rfl⟩:=bo.bu;obtain⟨As,ns,ks,rfl⟩:=so.form;have BO:=aa bo;have SO:=aa so;have HP:=aa hp;have B2:=aa b2;clear bo so hp b2))
 have b3:=aF W2 (.cells #[ac c.ax,ac c.depth,am Ab nb cb,am As ns ks] 72);have X3:=ar W2 [ac c.ax,ac c.depth,am Ab nb cb,am As ns ks] 72;have⟨W3,cD⟩:=eX (W2.alloc (.cells #[ac c.ax,ac c.depth,am Ab nb cb,am As ns ks] 72));obtain⟨ug,iI⟩:∃y,y=W2.heap.size:=⟨_,rfl⟩;rw[<-cD] at b3|-;have X3:aq W3 ug 72 [ac c.ax,ac c.depth,am Ab nb cb,am As ns ks]:=by rw[cD,iI];exact X3
 rw[<-iI];have hS:=H.p1.lt;have EF:=Pd B2.o b3;have HCA:Af (jw W3 (BS I) (.agg #[ac c.ax,ac c.depth,am Ab nb cb,am As ns ks]) c/\iP W3 (BS I) (am As ns ks) ps/\Ns W3 W3 .i64 (am Ab nb cb) c.blocks):=by
  have ho:rl W2 w ⟨c,am Ab nb cb,am As ns ks,ps⟩:=⟨BO.o,SO.o,HP.o⟩;have ha:=ho.cha hS;have hs:iP W2 (BS I) (am As ns ks) ps:=by obtain⟨NC,tZ,DX,e',h1,h2,h3,h4⟩:=ha.ex;exact⟨SO.o.Wa,jG SO.o.row hS,λp hp=>jG (SO.o.es p hp).1 hS⟩
  exact⟨ha.on b3,hs.on b3,dU BO.o.ns b3⟩
 have Nx:=dI W3 I s (H.p1.on EF);rw[<-HL.o] at Nx;have AL:=aa Nx;have pw:Af (ci w W3/\w.heap.size<=ug/\∀x,BS I x->x<w.heap.size):=⟨EF,by rw[iI];exact B2.o.size,hS⟩;have Em:=aa X3;have hL0:(L:Int)<=4096:=by rw[HL.o];have:=H.p1.n0;omega
 have hwk:IntKind.i64.wrap bk=bk:=by have:=H.q3;unfold bX at this;rw[XN];omega
 clear cD iI b3 X3 hS EF Nx HM uo hL0;by_cases h0:bk=0
 .subst h0;go_wp2_with fail;try rw[Qv]
  go_ret;rw[HA.o,Xo (by first|exact .inl rfl|exact .inl trivial)];exact⟨rfl,H.p1.on pw.p1,aG.aZ pw.p1⟩
 .have h0b:(bk==0)=false:=by simpa using h0
  by_cases h1:(L:Int)<=bk
  .go_wp2_with(go_at_call 20;refine AL.o.mono ?_;rintro e W4 ⟨rfl,rfl⟩);(try rw[Qv]);go_ret;rw[HA.o,Xo (.inr h1)];exact⟨rfl,H.p1.on pw.p1,aG.aZ pw.p1⟩
  .have IF:Af (X=if(⟨pr,bk⟩:aD)∈c.all then(0,s) else oV s dep ae at_ cs [c] (cP 9 c ⟨pr,bk⟩)):=(by show _=_;rw[HA.o,Xd (by rintro(h|h);exact h0 h;exact h1 h)]);have HR:Af (0<bk/\bk<L):=⟨by have h2:0<=bk:=H.p4;omega,Mx⟩;go_upto_region 9 with(go_at_call 20;refine AL.o.mono ?_;rintro e W4 ⟨rfl,rfl⟩);obtain⟨W4,j7,X4,b4⟩:=nW W3 [ip pr,gc bk] 29;have⟨eb,mR⟩:=eX W3.heap.size;rw[<-mR] at X4;have Bh:=dK j7.symm mR.symm;have iH:=wo W4 (am As ns ks) ps (HCA.p2.s.on b4) (by have h1:=XF List.length HP.o;rw[Qq,<-(H.p2.ch c HC.p1).ok.len] at h1;rw[h1];exact Qh (fL cs c HC.p1) (Qh H.p2.ok.many Fd)) ⟨pr,bk⟩ eb X4;rw[VK c ps ⟨pr,bk⟩ HP.o] at iH;have wO:=aa iH;have x3:=(Em.o.on b4).j3;have WT:=iJ b4 (Em.o.on b4) X4;clear j7 mR b4 X4 iH AL h0b hwk h0 h1;go_upto_region 10 with fail;rw[Bh.p1,Bh.q1];clear Bh;unfold BM at wO;by_cases hm:(⟨pr,bk⟩:aD)∈c.all
   .have wO:Af (Calls prog 25 #[am As ns ks,.func (.func 26) #[] #[eb]] W4 (iF true λw' =>ci W4 w')):=(by have h1:=wO.o;rw[Xa hm] at h1;exact h1);have HA3:Af (X=(0,s)):=(by show _=_;rw[IF.o,Xo hm]);clear hm;go_wp2_with(go_at_call 25;refine wO.o.mono ?_;rintro e W5 ⟨rfl,b5⟩;have B5:=aa b5;clear b5);(try rw[Qv]);go_ret;rw[HA3.o];have bb:=Pd pw.p1 (Pd WT.p1 B5.o);exact zfT
   .have wO:Af (Calls prog 25 #[am As ns ks,.func (.func 26) #[] #[eb]] W4 (iF false λw' =>ci W4 w')):=(by have h1:=wO.o;rw[Xe hm] at h1;exact h1);have HA3:=dK (by rw[IF.o,Xd hm]:X=oV s dep ae at_ cs [c] (cP 9 c ⟨pr,bk⟩)) hm;clear hm;go_upto_region 12 with(go_at_call 25;refine wO.o.mono ?_;rintro e W5 ⟨rfl,b5⟩;have B5:=aa b5;clear b5);have b5:=Pd WT.p1 B5.o;have b05:=Pd pw.p1 b5;have⟨Wd,dJ⟩:=eX W5.drew;have bd:ci W5 Wd:=(by rw[dJ];exact below_drewN (Xj W5 W5) 1);have AG:=aa dJ.symm;have b0d:=Pd b05 bd;have b3d:=Pd b5 bd;have b4d:=Pd B5.o bd;obtain⟨x0,x1,x2,x3'⟩:=mm (WT.p2.on b4d);obtain⟨y0,y1⟩:=gh (WT.q2.on b4d);have j5:=H.p1.n0;have ej:0<bk/\bk<4096:=(by have:=HR.o;rw[HL.o] at this;omega);have he:tw ⟨pr,bk⟩:=⟨H.p3,by show bk≠0;omega,ej.2⟩;have jZ:=HAo.o c HC.p2 HA3.q1 (by rw[<-HL.o];have:=HR.o;show ¬(bk=0\/(L:Int)<=bk);omega);have HSw:Af (∀(V:Wo) gv cv,ci w V->mI V (BS I) gv [c]->mI V (BS I) cv (cP 9 c ⟨pr,bk⟩)->Calls prog 28 #[I.b,gv,cv] V (iF (ac X.1) λw' =>cR w' I X.2/\aG (BS I) V w')):=λV gv cv hV hg hc=>by
     have h1:=Ks V I s (H.p1.on hV) H.p2.live dep ae at_ cs H.p2.ok gv cv [c] (cP 9 c ⟨pr,bk⟩) hg hc Sv (Qh (gX 9 c ⟨pr,bk⟩) Fd) (λc' TJ =>by rw[Qx.1 TJ];exact ahO H.p2 HC.p1) jZ.2.1 jZ.1
      (λ_=>jZ.2.2.1) (λ_ h=>jZ.2.2.2 h)
     rw[HA3.p1];exact h1
    have HAd:Af (∀(V:Wo),ci Wd V->Calls prog 29 #[.agg #[ac c.ax,ac c.depth,am Ab nb cb,am As ns ks],.agg #[ip pr,gc bk]] V λr w' =>∃v',r= .returned v'/\eN w' (BS I) V v' (cP 9 c ⟨pr,bk⟩)/\ci V w'):=λV hV=>(by have hb:=Pd b3d hV;exact Ii ⟨pr,bk⟩ he ⟨H.p3,H.q3⟩ 9 Fd V (BS I) (λx hx=>Qn (pw.q2 x hx) (Pd b0d hV).size) c (H.p2.ch c HC.p1) _ (HCA.p1.on hb) (Qh (fL cs c HC.p1) H.p2.ok.many) Mx HC.q2);have HD:=dK b0d (HCA.p1.on b3d);clear b5 b05 dJ bd b0d b3d b4d j5 ej he jZ x3;refine bL (λj=>[6,7].contains j) (λW=>ci Wd W) KJ ?_;rw[AG.o];have L1:=Xj Wd Wd;refine tKz 0 41 I.b pm (λW hW=>zM) L1 ?_;(try simp only[Act.put,Qb,Qc,Qd]);refine aK (i:=1) (some 42) (v:= .agg #[ac c.ax,ac c.depth,am Ab nb cb,am As ns ks]) rfl rfl KJ (fP KJ) (λ_ _ _ h=>h) (Or.inl ⟨zac,λW hW=>IR⟩) L1 ?_;(try simp only[Act.put,Qb,Qc,Qd]);refine aK (i:=3) (some 44) (v:= .agg #[ac c.ax,ac c.depth,am Ab nb cb,am As ns ks]) rfl rfl KJ (fP KJ) (λ_ _ _ h=>h) (Or.inl ⟨zac,λW hW=>IR⟩) L1 ?_;(try simp only[Act.put,Qb,Qc,Qd]);refine aK (i:=4) (some 45) (v:= .agg #[ip pr,gc bk]) rfl rfl KJ (fP KJ) (λ_ _ _ h=>h) (Or.inl ⟨zac,λW hW=>by have h0_:=(hW.cell (XX y0)).trans y0;have h1_:=(hW.cell (XX y1)).trans y1;go_simp⟩) L1 ?_;(try simp only[Act.put,Qb,Qc,Qd]);refine gR [2] [5] (λa0 i j a W=>∃JB x46,a=(a0.put (some 43) JB).put (some 46) x46/\ci Wd W/\(1<=i->∃g,JB= el g 0 1 1/\w.heap.size<=g/\aq W g 72 [ac c.ax,ac c.depth,am Ab nb cb,am As ns ks])/\(1<=j->eN W (BS I) Wd x46 (cP 9 c ⟨pr,bk⟩))) 2 rfl KJ ⟨_,_,Ux zac,L1,λh=>absurd h Fd,λh=>absurd h Fd⟩ ⟨?_,trivial⟩ ⟨?_,trivial⟩ ?_;all_goals clear L1
    .rintro j a W ⟨JB,x46,rfl,L1,-,HB⟩;refine bJ rfl (λK hK=> ?_);obtain⟨V,hV,X,b⟩:=nW W [ac c.ax,ac c.depth,am Ab nb cb,am As ns ks] 72;simp only[Act.put,Qb,Qc,Qd];go_simp;rw[<-hV];refine hK.out _ _ ⟨λ_=>Pd L1 b,el W 0 1 1,x46,?_,Pd L1 b,λ_=>⟨_,rfl,Qh HD.p1.size L1.size,X⟩,λh=>(HB h).on b⟩;exact zef
    .rintro i a W ⟨JB,x46,rfl,L1,HA,-⟩;refine bJ rfl (λK hK=> ?_);simp only[Act.put,Qb,Qc,Qd];go_simp;go_at_call 29;refine Qaw (HAd.o W L1) ?_;rintro e V ⟨v5,rfl,l5,b⟩;go_simp;refine hK.out _ _ ⟨λ_=>Pd L1 b,JB,v5,?_,Pd L1 b,λh=>(HA h).imp λg hg=>⟨hg.1,hg.2.1,hg.2.2.on b⟩,λ_=>l5.low L1.size⟩;exact zef
    .rintro a V5 ⟨JB,x46,rfl,L1,HA,HB⟩;obtain⟨g4,rfl,G4,X4⟩:=HA go;have l5:=HB go;obtain⟨A5,n5,c5,rfl⟩:=l5.form;clear HA HB;simp only[Act.put,Qb,Qc,Qd];refine ju 6 rfl KJ λK hK=> ?_;have agT:=Pd HD.p1 L1;have UI:=ab3 X4 (HD.q1.on L1) (λhx=>absurd (pw.q2 g4 hx) (XV.2 G4));have UH:=l5.ls (λx hx=>Qn (pw.q2 x hx) HD.p1.size);go_simp;go_at_call 28;refine Qaw (HSw.o V5 _ _ agT UI UH) ?_;rintro e V9 ⟨rfl,h9,c9⟩;go_simp;refine hK.out _ _ (λhx=>by simp at hx) ?_;clear hK K;(try simp only[Act.put,Qb,Qc,Qd]);refine ju 7 rfl KJ λK hK=> ?_;go_simp;refine hK.out _ _ (λhx=>by simp at hx) ?_;clear hK K;(try simp only[Act.put,Qb,Qc,Qd]);refine bD KJ ?_ _;go_wp2_with fail;go_ret;exact⟨rfl,h9,(aG.aZ agT).trans c9⟩
variable{ax:Nat}{e:aD}{A B C cs:List ak}
def ahead_blocks(ax dep:Nat)(l:List aD)(bs:Fr)(ss:List ay):(bZ ax dep l bs ss).blocks=bs\/(bZ ax dep l bs ss).blocks=0::bs:=by
 unfold bZ;split
 .exact .inl rfl
 .exact .inr rfl
def ahead_zf{l:List aD}{bs:Fr}{ss:List ay}(h:ZF bs):ZF (bZ ax dep l bs ss).blocks:=by
 obtain e|e:=ahead_blocks ax dep l bs ss
 .rw[e];exact h
 .rw[e];exact h.zero
def side_blocks(c:ak)(half ax:Nat):(fR c half ax).blocks=[]\/(fR c half ax).blocks=[0]\/(fR c half ax).blocks=c.blocks.tail\/(fR c half ax).blocks=0::c.blocks.tail:=by
 unfold fR;split
 .rcases ahead_blocks ax (c.depth+1) (c.first.filter (cI half ax)) [] [] with e|e
  .exact .inl e
  .exact .inr (.inl e)
 .rcases ahead_blocks ax (c.depth+1) (c.first.filter (cI half ax)) c.blocks.tail c.ah.tail with e|e
  .exact .inr (.inr (.inl e))
  .exact .inr (.inr (.inr e))
def side_zf{half:Nat}(h:ZF c.blocks):ZF (fR c half ax).blocks:=by
 obtain e|e|e|e:=side_blocks c half ax<;>rw[e]
 .trivial
 .exact ZF.zero (r:=[]) trivial
 .exact h.tail
 .exact h.tail.zero
def added_zf:∀(k:Nat) (c:ak) (e:aD),ZF c.blocks->∀c'∈cP k c e,ZF c'.blocks
 |0,_,_,_,_,h=>absurd h QV
 |k+1,c,e,hz,c',h=>by
  unfold cP at h;split at h
  .rw[Qx] at h;rw[h];exact ahead_zf hz.tail
  .split at h
   .rw[Qx] at h;rw[h];exact ahead_zf hz
   .split at h
    .rcases Qz.1 h with h|h
     .exact added_zf k _ e (side_zf hz) c' h
     .rw[Qx] at h;rw[h];exact side_zf hz
    .rcases QA.1 h with h|h
     .rw[h];exact side_zf hz
     .exact added_zf k _ e (side_zf hz) c' h
def side_zeros(half ax:Nat)(h:c.blocks.tail.count 0=0):(fR c half ax).blocks.count 0<=1/\(fR c half ax).blocks.tail.count 0=0:=by
 have ht:c.blocks.tail.tail.count 0=0:=by have:=(List.tail_sublist c.blocks.tail).count_le 0;omega
 obtain e|e|e|e:=side_blocks c half ax<;>rw[e]
 .exact⟨Fd,rfl⟩
 .exact⟨Fd,rfl⟩
 .exact⟨Mx,ht⟩
 .refine⟨?_,h⟩;rw[Qef,h];decide
theorem added_zeros:∀(k:Nat) (c:ak) (e:aD),c.depth<=8->ur c->bY c.ax c.depth (bz e)=true->c.blocks.tail.count 0=0->(dD (cP k c e)).count 0<=10 - c.depth
 |0,_,_,_,_,_,_=>Qp _
 |k+1,c,e,hd,hG,hi,hz=>by
  unfold cP;split
  .show((bZ _ _ _ _ _).blocks++[]).count 0<=_;rw[Zi];obtain e|e:=ahead_blocks c.ax c.depth (qi c.first e) c.blocks.tail c.ah.tail<;>rw[e]
   .omega
   .rw[Qef,hz];simp;omega
  .split
   .show((bZ _ _ _ _ _).blocks++[]).count 0<=_;rw[Zi];have hc:c.blocks.count 0<=1:=by
     cases hb:c.blocks with
     |nil=>exact Qp _
     |cons b r=>
      rw[hb] at hz;rw[Qef,show r.count 0=0 from hz];split<;>decide
    obtain e|e:=ahead_blocks c.ax c.depth [e] c.blocks c.ah<;>rw[e]
    .omega
    .rw[Qef];simp;omega
   .rename_i h2 h3
    have qc:c.depth<8:=by
     obtain h|h:=Qae c.depth 8
     .exact h
     .exact absurd (xu hG h hi) h3
    obtain⟨l1,l2⟩:=side_zeros (c:=c) (dj c) c.ax hz;obtain⟨r1,r2⟩:=side_zeros (c:=c) (dj c) (c.ax+dj c) hz;have dl:(dQ c).depth=c.depth+1:=(side_frm _ _ _).2;have dr:(dd c).depth=c.depth+1:=(side_frm _ _ _).2;have gl:=Jb hG qc (ax:=c.ax) (.inl rfl);have gr:=Jb hG qc (ax:=c.ax+dj c) (.inr rfl);split
    .rename_i h4
     have ih:=added_zeros k (dQ c) e (by rw[dl];omega) gl h4 l2;rw[dl] at ih;rw[stayV_append,Qbm];show _+((dd c).blocks++[]).count 0<=_;rw[Zi];have r1:(dd c).blocks.count 0<=1:=r1;omega
    .rename_i h4
     have hs:=Ce qc hG.ok.f256 hG.ok.mod hi;have hr:bY (dd c).ax (dd c).depth (bz e)=true:=(by rw[dr,show(dd c).ax=c.ax+dj c from(side_frm _ _ _).1];rw[dl,show(dQ c).ax=c.ax from(side_frm _ _ _).1] at h4;unfold dj;refine hs.2.2 ?_;have h5:bz e/2^(7 - c.depth)%2≠0:=λh0=>h4 (hs.1.2 h0);omega);have ih:=added_zeros k (dd c) e (by rw[dr];omega) gr hr r2;rw[dr] at ih;rw[stayV_cons,Qbm];have l1:(dQ c).blocks.count 0<=1:=l1;omega
def entries(cs:List ak):List aD:=cs.flatMap (·.all)
def entries_append(a b:List ak):entries (a++b)=entries a++entries b:=by unfold entries;rw[QP]
def beg_lt(h:bI e.print):bz e<256:=by unfold bz;have:=h.2;omega
def HInv.ne(h:HInv s dep ae at_ cs)(hc:c∈cs):∀x∈c.blocks,2<=x/\x<s.t.len:=λx hx=>
 h.rg x (QD _ (QT.2 ⟨c,hc,hx⟩))
def HInv.chain(h:HInv s dep ae at_ cs){n:Nat}(hn:n<256):∃A c B,cs=A++[c]++B/\Bf cs n=some c/\bY c.ax c.depth n=true:=by obtain⟨c,hc,h1,h2⟩:=h.ok.aaP.some (n:=n) ⟨lm,hn⟩;obtain⟨A,B,e⟩:=List.append_of_mem hc;exact⟨A,c,B,by rw[e];simp,h1,h2⟩
def HInv.entry(h:HInv s dep ae at_ cs)(hc:Bf cs (bz e)=some c):e∈entries cs↔e∈c.all:=by
 constructor
 .intro he;obtain⟨c2,h2,he⟩:=QT.1 he;have:=h.ok.aaP.find h2 ((h.ch c2 h2).ok.its e he);rw[hc] at this;rw[Qr this];exact he
 .intro he;exact QT.2 ⟨c,Qdt hc,he⟩
theorem added_swap(h:HInv s dep ae at_ (A++[c]++B))(he:tw e)(h0:0<=e.block)(bT:e∉c.all)(hi:bY c.ax c.depth (bz e)=true):
  SwapG A [c] B (cP 9 c e)/\kW (A++[c]++B) [c] (cP 9 c e)=true/\(entries (cP 9 c e)).Perm (e::c.all):=by
 have oS:c∈A++[c]++B:=QB _ (QD _ (Qx.2 rfl));have hG:=h.ch c oS;have hA:=(h.ok.mem oS).1;obtain⟨g1,g2⟩:=added_ok 9 c e hG Mx he bT hi;have hzf:=ZF.of_ne λx hx=>by have:=h.ne oS x hx;omega
 have ht:=added_tile 9 c e hG Mx hi;have hk:=kept_one hA.nextOk (added_trip 9 c e hG Mx hi);have hT:=h.ok.aaP;obtain⟨p,q,t1,t2,t3⟩:=hT.Zn;have t2' :=t2;obtain⟨y1,y2,y3,y4⟩:=t2';have y4:=y4;refine⟨⟨⟨p,q,t1,t2,by rw[<-y4,<-y1];exact ht,t3⟩,g1,λc' TJ a ha=> ?_,added_zf 9 c e hzf,hk⟩,?_,g2⟩
 .have:a∈(cP 9 c e).flatMap (·.all):=QT.2 ⟨c',TJ,ha⟩;obtain rfl|h2:=QA.1 (g2.mem_iff.1 this)
  .exact h0
  .exact h.ent c oS a h2
 .have N1:qk c.ax (c.ax+2^(8 - c.depth)) [c]:=⟨rfl,hG.ok.d8,hG.ok.mod,rfl⟩;unfold kW;simp only[XR,Qad];refine⟨⟨⟨⟨?_,?_⟩,coversV_eq N1 ht⟩,coversV_one ht⟩,hk⟩
  .rw[XT];intro c' TJ;rw[Qx.1 TJ,hG.dz,hT.find oS its_self];simp
  .rw[XT];exact λc' TJ =>(g1 c' TJ).dz
def deep_le{G:List ak}(h:HInv s dep ae at_ (A++G++B))(hw:SwapG A G B C):(bt dep ae at_ G C).dep<=8:=by
 obtain⟨p,q,tA,tG,tC,tB⟩:=hw.aaP;obtain⟨hsegs,hdep0⟩:=h.ok.ae;have hcells:bc dep ae=(range 256).map (cellAt (A++G++B)):=hsegs▸(cells_segs h.ok.dir.oH.d8 h.ok.aaP hdep0);have tT:=qk.append.2 ⟨q,qk.append.2 ⟨p,tA,name_tile C s p q tC⟩,tB⟩;have hnamed:=λn (hn:n<256)=>(named_cells tA tG tC (B:=B) s n hn).2.1;have oJ:(cJ (bc dep ae) C).length=256:=by
  have key:∀(l:List ak) (i:Nat) (cl:List aM),(foldI fE i l cl).length=cl.length:=by
   intro l;induction l with
   |nil=>intro i cl;rfl
   |cons c r ih=>exact zge
  rw[cJ,key,hcells];simp
 rw[<-hcells] at hnamed;exact(deep_cells oJ tT hnamed).1
def free_le(l:Fr):s.room<=gO s l:=by unfold gO;omega
theorem add_ok(h:HInv s dep ae at_ cs)(e:aD)(hu:bI e.print)(h0:0<e.block)(h1:e.block<s.t.len):
  (e∈entries cs/\zq s dep ae at_ cs e=(0,s))\/(e∉entries cs/\s.room<15/\zq s dep ae at_ cs e=(90,s))\/
  (e∉entries cs/\∃A c B Of room' s' at' C',cs=A++[c]++B/\Bf cs (bz e)=some c/\SwapOk s Of at_ A (cP 9 c e) B room' s' at' C'/\s.room - room'<=15/\(entries (cP 9 c e)).Perm (e::c.all)/\zq s dep ae at_ cs e=(0,s')):=by
 obtain⟨A,c,B,iH,kJ,hi⟩:=h.chain (beg_lt hu);have hiff:=h.entry kJ;have UN:zq s dep ae at_ cs e=if e∈c.all then(0,s) else oV s dep ae at_ cs [c] (cP 9 c e):=by unfold zq;rw[Xd Mx,kJ]
 by_cases hm:e∈c.all
 .exact .inl ⟨hiff.2 hm,by rw[UN,Xo hm]⟩
 .rw[Xd hm] at UN;have hn:e∉entries cs:=λh2=>hm (hiff.1 h2)
  subst iH;have aJ:=h.inv.tok.n1;obtain⟨hw,hf,hp⟩:=added_swap h ⟨hu,Mx,Mx⟩ Mx hm hi;have oS:c∈A++[c]++B:=QB _ (QD _ (Qx.2 rfl));have hG:=h.ch c oS;have hz:=added_zeros 9 c e hG.ok.d8 hG hi (by
   rw[List.count_eq_zero];intro h2;have:=h.ne oS 0 (Qgh h2);omega)
  have agj:qt (bt dep ae at_ [c] (cP 9 c e)).ag (cP 9 c e)<=15:=by have h2:(bt dep ae at_ [c] (cP 9 c e)).ag.length<=5:=(by have eK:(bt dep ae at_ [c] (cP 9 c e)).dep<=8:=(by exact deep_le h hw);show(jF _ _ (dS (bt dep ae at_ [c] (cP 9 c e)).dep _)).length<=5;rw[pgV_len];refine pgN_le ?_;unfold dS;rw[Qq,Qbk];exact pow_le8 eK);have h3:=Qgi (a:=(0:Int)) (l:=(bt dep ae at_ [c] (cP 9 c e)).ag);unfold qt;rw[Qbm];omega
  unfold oV at UN;rw[Xd (by rw[hf];decide)] at UN;have Ir:=free_le (s:=s) (bt dep ae at_ [c] (cP 9 c e)).gone;by_cases hr:gO s (bt dep ae at_ [c] (cP 9 c e)).gone<qt (bt dep ae at_ [c] (cP 9 c e)).ag (cP 9 c e)
  .refine .inr (.inl ⟨hn,Mx,?_⟩);rw[UN];exact Xo hr
  .obtain⟨at',C',hs⟩:=swap_ok h hw hr;refine .inr (.inr ⟨hn,A,c,B,_,_,_,at',C',rfl,kJ,hs,Mx,hp,?_⟩);rw[UN];exact Xd hr
def SwapOk.entries{room:Int}{s' :aX}{at' :Fr}{C' :List ak}(h:SwapOk s dep at_ A C B room s' at' C'):Go.Proofs.YtjjomjobllcleaaGreat.entries C' =Go.Proofs.YtjjomjobllcleaaGreat.entries C:=by
 have e:C'.map (·.all)=C.map (·.all):=by
  refine Qal λk=> ?_;rw[Qt,Qt];obtain hk|hk:=Qae k C.length
  .have hc:=Qf hk;obtain⟨c',g1,g2⟩:=h.named k _ hc;rw[g1,hc];show some c'.all=some _;rw[(all_of_es g2.es).1]
  .rw[QQ (h.len▸hk),QQ hk]
 show(C'.map (·.all)).flatten=(C.map (·.all)).flatten;rw[e]
variable{s' :aX}
def unpl_plc0(t:aE)(next:Nat)(ag au:Fr):Bl (NX t next ag au)=ag.length+au.length:=zfQ
def fresh_none(l:List (Option (List Int)))(b:Nat):(l.map λ_=>(none:Option (List Int))).getD b none=none:=by rw[Qe,Qt];cases l[b]? <;>rfl
def commit_ok{hold:GT}(h:BInv s hold)(k:KInv s)(hg:s.kept.gen<4611686018427387904):∃s',s.commit=(0,s')/\CmtOk s hold s' :=by
 have hn16:=h.n16;have j5:=h.tok.n1;by_cases hc:s.t.changed.length=0/\s.eO=s.kept
 .refine⟨s,?_,h,k,λ_ _=>rfl,λ_ _=>rfl,rfl,Mx,rfl,unchanged h k hc.1 hc.2⟩;rw[aX.commit,h.live,Xd Fd,Xo hc]
 .obtain⟨ta,G0⟩:=place_start h k;obtain⟨pe,p1,-,-,-,-⟩:=placeV_good h.tok Mx ta h.need h.ok.n2 h.ok.nl h.ok.rg;obtain⟨G,hf⟩:=G0.run (f:=s.ag.length+s.au.length) (Xg (unpl_plc0 _ _ _ _));rw[<-pe] at G hf;have⟨x,hx⟩:=eXa ((fm s.t s.next s.ag s.au).2);rw[<-hx] at G hf;have⟨g,hgd⟩:=eXa (s.eO.gen+1);have SN:=k.sg;have SK:=h.ok.kep.g;have hkr:=k.right;have hk1:0<s.kept.gen:=by unfold nm at hkr;simp only[XR,Qad] at hkr;exact hkr.1.1.1
  obtain⟨sup,NY⟩:∃y:aN,y={qE s.eO x.au with gen:=g}:=⟨_,rfl⟩;have Wx:∀d∈x.au,0<=d/\d<s.t.len:=λd hd=>by have:=G.ok.rg d (QD _ hd);rw[G.len] at this;exact this
  have SC:bM sup:=NY▸(rooted_ok h.ok.sup j5 Wx g (by unfold bI at SK|-;omega));have hsr:nm sup=true:=NY▸(rooted_right hn16 j5 k.sb k.sr Wx g Mx);have W:=writ_ok h k G hf (J7 sup) (GK SC);have⟨bl',fg⟩:=eXa (eS (eS s.bl ((((range s.fresh.length).filter λb=>(s.fresh.getD b none).isSome).map λ(b:Nat)=>((b:Int),(s.fresh.getD b none).getD []))++pagedV x.t x.ag x.au (gG x.pp) (gG x.pd))) [(1 - (s.slot:Int),J7 sup)]);rw[<-fg] at W;have oS:s.commit=(0,({s with bl:=bl',t:=x.t.keep,next:=x.next,ag:=x.ag,au:=x.au,fresh:=s.fresh.map λ_=>none,eO:=sup,kept:=sup,slot:=1 - s.slot}:aX)):=by rw[aX.commit,h.live,Xd Fd,Xd hc];simp only;rw[Xd (by rw[p1];exact λh=>h rfl),<-hx,fg,NY,hgd];rfl
  obtain⟨f1,f2⟩:=fst_done hf;have hz:∀y∈x.ag++x.au,y≠0:=λy hy=>by
   obtain hy|hy:=Qz.1 hy
   .obtain⟨i,hi⟩:=Qab hy;have hil:=(Ql.1 hi).1;rw[getD_get hil] at hi;rw[<-Qr hi];obtain h1|h1:=f1 i hil
    .exact(G.new i h1).1
    .exact h1.1
   .obtain⟨i,hi⟩:=Qab hy;have hil:=(Ql.1 hi).1;rw[getD_get hil] at hi;rw[<-Qr hi];obtain h1|h1:=f2 i hil
    .exact(G.newd i h1).1
    .exact h1.1
  have h2z:∀y∈x.ag++x.au,2<=y/\x.t.get y.toNat=1:=λy hy=>G.one y hy (hz y hy);have hzn:=idx_nodup λi j y hi hj=>G.nd i j y hi hj (hz y (Qi hi));obtain⟨d1,d2,d3,d4⟩:=dirs_two h.ok hn16 j5;obtain⟨s',hs'⟩:∃s',s' =({s with bl:=bl',t:=x.t.keep,next:=x.next,ag:=x.ag,au:=x.au,fresh:=s.fresh.map λ_=>none,eO:=sup,kept:=sup,slot:=1 - s.slot}:aX):=⟨_,rfl⟩;rw[<-hs'] at oS;have q1:s'.bl=bl' :=zcH;have q2:s'.t=x.t.keep:=zcH;have q3:s'.next=x.next:=zcH;have q4:s'.ag=x.ag:=zcH;have q5:s'.au=x.au:=zcH;have q6:s'.fresh=s.fresh.map λ_=>none:=zcH;have q7:s'.eO=sup:=zcH;have q8:s'.kept=sup:=zcH;have q9:s'.slot=1 - s.slot:=zcH;have YY:s'.broken=false:=hs'▸h.live;have hlen:s'.t.len=s.t.len:=by rw[q2,keep_len,G.len]
  have eo:∀b,s'.ik b=false:=λb=>by rw[aX.ik,q6,fresh_none];rfl
  have hrd:∀b,s'.read b=bl'.getD b []:=λb=>by rw[aX.read,q6,fresh_none,q1];rfl
  have iO:∀b,s'.t.get b=x.t.get b:=λb=>by rw[q2,keep_get]
  have hwas:∀b,s'.t.mE b=x.t.get b:=λb=>by rw[q2,keep_was]
  have Ay:sup.gen=s.kept.gen+1:=by rw[NY];show g=_;omega
  have kr:=h.ok.slot;have hks:=k.slot;have hroots:sup.roots=[x.au.getD 0 0,x.au.getD 1 0]++s.eO.roots.drop 2:=by rw[NY];rfl
  have BH:kU s.t.len<=x.t.keep.room 2:=by
   have hk:=keep_ok G.ok.ok;have e1:=room_not hk (by rw[keep_len,G.len];omega);have e2:=room_not h.tok Mx;rw[keep_len,G.len] at e1;have im:=h.nd;have hknd:=idx_nodup k.nd;have u1:((range s.t.len).countP λb=> !x.t.keep.freeHi b)<=(0::1::(hold++(x.ag++x.au).map Int.toNat)).length:=count_le_list λb hb hp=>by
    unfold aE.freeHi aE.free at hp;rw[keep_get,keep_was,keep_len,G.len] at hp;by_cases jr:b=0
    .rw[jr];exact Qm ..
    .by_cases yZ:b=1
     .rw[yZ];exact Qs _ (Qm ..)
     .have AV:x.t.get b≠0:=λe=>(by rw[e] at hp;simp[hb] at hp;omega);refine Qs _ (Qs _ (Qz.2 ?_));obtain h1|⟨-,h1⟩:=G.rest b (G.len▸hb) AV
      .exact .inl h1
      .exact .inr (QU.2 ⟨_,h1,Xt b⟩)
   have u2:(0::1::(hold++(s.ag++s.au).map Int.toNat)).length<=(range s.t.len).countP λb=> !s.t.freeHi b:=by
    have ph:∀b∈hold++(s.ag++s.au).map Int.toNat,2<=b/\b<s.t.len/\s.t.get b=1:=λb hb=>by
     obtain hb|hb:=Qz.1 hb
     .obtain⟨o1,o2,o3,-⟩:=h.own b hb;exact⟨o1,o2,o3⟩
     .obtain⟨y,hy,rfl⟩:=QU.1 hb;obtain⟨r1,r2,r3,-⟩:=k.rg y hy;exact⟨Mx,Mx,r3⟩
    refine count_ge_list ?_ λb hb=> ?_
    .refine Qez.2 ⟨λhm=> ?_,Qez.2 ⟨λhm=> ?_,List.nodup_append.2 ⟨im,toNat_nodup hknd λy hy=>by have:=(k.rg y hy).1;omega,λa ha b hb e=> ?_⟩⟩⟩
     .rcases QA.1 hm with e|hm
      .cases e
      .have:=(ph 0 hm).1;omega
     .have:=(ph 1 hm).1;omega
     .obtain⟨y,hy,rfl⟩:=QU.1 hb;obtain⟨-,-,-,n1,n2,-⟩:=h.own a ha;have:=(k.rg y hy).1;have e2:(a:Int)=y:=(by omega);rw[e2] at n1 n2;obtain h1|h1:=Qz.1 hy
      .exact n1 h1
      .exact n2 h1
    .unfold aE.freeHi aE.free;obtain rfl|hb:=QA.1 hb
     .exact⟨Mx,Sv⟩
     .rcases QA.1 hb with rfl|hb
      .exact⟨Mx,Sv⟩
      .obtain⟨r1,r2,r3⟩:=ph b hb;exact⟨r2,by rw[r3];simp⟩
   simp only[QF,Qo,Qq,G.lp,G.ld] at u1 u2;have:=h.need;omega
  have hold' :∀b∈hold,(b:Int)∉x.ag++x.au:=λb hb hm=>by have:=G.nhd _ hm (hz _ hm);rw[Xt] at this;exact this hb
  have ec:Yj s' :=by
   refine⟨by rw[q1,W.len,hlen];exact h.ok.bl,by rw[q6,Qq,hlen];exact h.ok.fr,by rw[q4,hlen,G.lp];exact h.ok.pg,by rw[q5,q4,G.lp,G.ld];exact h.ok.dg,?_,by rw[q3];exact G.ok.n2,by rw[q3,hlen,<-G.len];exact G.ok.nl,by rw[q7];exact SC,by rw[q8];exact SC,by rw[q9];omega,λdata hd=> ?_⟩
   .rw[q4,q5,hlen,<-G.len];exact G.ok.rg
   .rw[q6] at hd;obtain⟨_,-,e⟩:=QU.1 hd;cases e
  have hinv:BInv s' hold:=by
   refine⟨ec,by rw[q2];exact keep_ok G.ok.ok,by rw[hlen];exact hn16,YY,by rw[hlen,q2];exact BH,h.nd,λb hb=> ?_,λb hb hg' => ?_,λb hb=> ?_,λb hb=> ?_⟩
   .obtain⟨o1,o2,o3,-⟩:=h.own b hb;have hg1' :=G.held b hb;have hn:=hold' b hb;rw[Qz] at hn;rw[hlen,iO,q4,q5,eo,hwas,hg1'];exact⟨o1,o2,rfl,λhm=>hn (.inl hm),λhm=>hn (.inr hm),rfl⟩
   .rw[hlen] at hb;rw[iO] at hg';rw[q4,q5];obtain h1|⟨-,h1⟩:=G.rest b (G.len▸hb) hg'
    .exact .inl h1
    .exact .inr (Qz.1 h1)
   .exact zfA
   .rw[eo] at hb;cases hb
  have hkin:KInv s' :=by
   have MB:=G.ld;have hxp:=G.lp;refine⟨by rw[q9,q8,Ay];omega,by rw[q8];exact hsr,?_,λy hy=> ?_,?_,?_,?_,?_,zdT,?_,?_,?_,?_,?_,q1▸W.Ej⟩
   .rw[q1,q9,q8,W.new];exact decX_encX SC hsr
   .rw[q1,q9,show 1 - (1 - s.slot)=s.slot by omega,W.wG,k.here] at hy;rw[q8,Ay,<-Qr hy];omega
   .rw[q8,q5,NY];exact rooted_twice _ _ _
   .rw[q5,q8,hlen,<-d1,<-MB,NY];exact rooted_take _ _ Mx Mx
   .rw[q8,hlen,NY];exact k.sb
   .rw[q7,hlen,NY];exact k.sb
   .rw[q7,hlen,hroots];intro r hr;have key:∀i,x.au.getD i 0<s.t.len:=λi=>by
     rw[Qe];cases hx:x.au[i]? with
     |none=>show(0:Int)<s.t.len;omega
     |some d=>exact(Wx d (Qi hx)).2
    obtain hr|hr:=Qz.1 hr
    .rcases QA.1 hr with rfl|hr
     .exact key 0
     .rw[Qx.1 hr];exact key 1
    .exact k.sr r (Q6 hr)
   .exact zfL
   .rw[q4,q5];intro y hy;have h1:=h2z y hy;have h2:=G.ok.rg y hy;rw[G.len] at h2;rw[hlen,iO,hwas,eo];exact⟨h1.1,h2.2,h1.2,h1.2,rfl⟩
   .rw[q5,q4,q1];intro i hi;rw[W.dir i hi];by_cases hp:x.pd.getD i false=true
    .rw[Xo hp];refine decI_encI 4 (.inl rfl) _ (yk _ _) λy hy=> ?_;have:=G.ok.rg y (QB _ (Q6 (Za hy)));rw[G.len] at this;omega
    .have hpf:x.pd.getD i false=false:=(by simpa using hp);rw[Xd hp,G.oldd i hpf,k.th1 i (MB▸hi)];refine XF some (part_ext hxp.symm λb b1 b2=> ?_);obtain h1|⟨-,h1⟩:=f2 i hi
     .rw[hpf] at h1;cases h1
     .exact(G.wG b (h1 b b1 b2)).symm
   .rw[q4,q1];intro i hi;rw[W.eL i hi];have hcw:wasL s'.t=x.t.counts:=(by rw[counts_eq];rw[wasL,hlen,G.len];exact Zj λb _=>hwas b);rw[hcw];by_cases hp:x.pp.getD i false=true
    .rw[Xo hp];refine decI_encI 5 (.inr rfl) _ (yk _ _) λy hy=> ?_;have:=G.ok.ok.range y (Q6 (Za hy));omega
    .have hpf:x.pp.getD i false=false:=(by simpa using hp);rw[Xd hp,G.wG i hpf,k.th2 i (hxp▸hi)];have hll:(wasL s.t).length=x.t.counts.length:=(by rw[wasL,Qq,Qbk];exact G.len.symm);refine XF some (part_ext hll λb b1 b2=> ?_);obtain hb|hb:=Qae b s.t.len
     .rw[wasL_getD hb];obtain h1|⟨-,h1⟩:=f1 i hi
      .rw[hpf] at h1;cases h1
      .have:=h1 b b1 b2 (G.len▸hb);rw[G.mE] at this;exact this
     .have e1:(wasL s.t).getD b 0=0:=by
       rw[Qe,QQ]
       .rfl
       .unfold wasL;simpa using hb
      have e2:x.t.counts.getD b 0=0:=by
       rw[Qe,QQ]
       .rfl
       .rw[<-hll];unfold wasL;simpa using hb
      rw[e1,e2]
  refine⟨s',oS,hinv,hkin,λb hb=> ?_,λi hi=> ?_,?_,by rw[q8,Ay];exact Qcp _,hlen,?_⟩
  .rw[hrd,W.rd b hb]
  .unfold aX.root;rw[q7,hroots];rw[Qe,QM zal,Zb];show(s.eO.roots[2+(i - 2)]?).getD 0=_;rw[show 2+(i - 2)=i by omega,Qe]
  .rw[q7,NY];rfl
  .refine unchanged hinv hkin ?_ zdT;rw[q2];rw[aE.changed,List.length_eq_zero_iff,List.filter_eq_nil_iff];intro b _;rw[aE.keep,rep_none];simp
def HInv.move(h:HInv s dep ae at_ cs)(hb:BInv s' ((at_++dD cs).map Int.toNat))(hl:s'.t.len=s.t.len)
  (hr:∀b∈(at_++dD cs).map Int.toNat,s'.read b=s.read b) (OI:∀i,3<=i->s'.root i=s.root i):HInv s' dep ae at_ cs:=by
 refine⟨hb,⟨⟨h.ok.dir.oH,h.ok.dir.np,λi hi=> ?_,λi h1 h2=> ?_,h.ok.dir.deep⟩,h.ok.len,λj sg c hj hc=> ?_,h.ok.nd,h.ok.many⟩,h.ch,h.ent⟩
 .obtain⟨r1,k,r2,r3,r4,r5⟩:=h.ok.dir.rt i hi;refine⟨by rw[OI _ Mx];exact r1,k,r2,r3,by rw[hl];exact r4,?_⟩;rw[hr k ?_]
  .exact r5
  .refine QU.2 ⟨at_.getD i 0,QB _ ?_,r2▸(Xt k)⟩;exact Qi (getD_get hi)
 .rw[OI _ Mx];exact h.ok.dir.no i h1 h2
 .obtain⟨c1,c2⟩:=h.ok.ch j sg c hj hc;refine⟨c1.eff hl λx hx=> ?_,c2⟩;exact hr _ (QU.2 ⟨x,QD _ (QT.2 ⟨c,Qi hc,hx⟩),rfl⟩)
def HInv.commit(h:HInv s dep ae at_ cs)(c:CmtOk s ((at_++dD cs).map Int.toNat) s'):HInv s' dep ae at_ cs:=
 h.move c.inv c.len c.rd λi hi=>c.root i Mx
variable{hold:GT}
def parts_flat(l:Fr):∀m:Nat,l.length<=61*m->((range m).map (bG l)).flatten=l:=by
 have key:∀m:Nat,((range m).map (bG l)).flatten=l.take (61*m):=by
  intro m;induction m with
  |zero=>rfl
  |succ m ih=>
   rw[Qbd,QL,List.flatten_append,ih];show l.take (61*m)++(bG l m++[])=_;rw[Zi,show 61*(m+1)=61*m+61 by omega,Qjb];rfl
 intro m h;rw[key,Qj h]
def wasL_len(t:aE):(wasL t).length=t.len:=by unfold wasL;simp
def thr_of{bl:List (List Int)}{kind:Int}{l at_:Fr}(kJ:(at_.length:Int)=aR l.length)(hl:1<=l.length)(hr:∀y∈at_,2<=y/\y<bl.length)(hd:∀i,i<at_.length->pB kind (bl.getD (at_.getD i 0).toNat [])=some (bG l i)):
  ∃ls,IQ bl kind l.length at_ ls/\ls.flatten=l:=by
 unfold aR at kJ;rw[Xd Mx] at kJ;refine⟨(range at_.length).map (bG l),⟨Sv,λp hp=> ?_,λk hk=> ?_⟩,parts_flat l _ Mx⟩
 .obtain⟨i,-,rfl⟩:=QU.1 hp;exact yk _ _
 .have hg:=getD_get hk;have hy:=hr _ (Qi hg);have e:((at_.getD k 0).toNat:Int)=at_.getD k 0:=by omega
  have aJ:(at_.getD k 0).toNat<bl.length:=Mx;refine⟨(at_.getD k 0).toNat,by rw[e];exact hg,Mx,aJ,bG l k,?_,?_,?_⟩
  .rw[Qt,Qam hk];rfl
  .have:=hd k hk;generalize (at_.getD k 0).toNat=a at this aJ;rw[Qe,Qf aJ] at this;exact this
  .unfold bG;rw[Qu,Zt];omega
def of_get(l:Fr)(b:Nat):(aE.of l).get b=l.getD b 0:=rfl
def ofT_len(l:Fr):(aE.of l).len=l.length:=rfl
def open_k(h:BInv s hold)(k:KInv s):IW s.bl s.kept s.ag s.au (wasL s.t)/\EP s.bl s.kept s.ag s.au (wasL s.t)=kSt s 2:=by
 have hn16:=h.n16;have j5:=h.tok.n1;have fg:=h.ok.bl;obtain⟨d1,d2,d3,d4⟩:=dirs_two h.ok hn16 j5;have hrg:=h.ok.rg;refine⟨⟨λp0 p1 h0 h1=> ?_,by rw[fg];exact k.bx,by rw[fg];exact d1,by rw[fg];exact k.drs,k.root,by rw[fg];exact d4,by rw[wasL_len,fg],λc hc=> ?_,by rw[fg];exact hrg,?_,?_,?_⟩,?_⟩
 .have hh:=k.here;have ho:=k.other;have kr:=h.ok.slot;have e0:s.bl.getD 0 []=p0:=by rw[Qe,h0];rfl
  have e1:s.bl.getD 1 []=p1:=by rw[Qe,h1];rfl
  have hr:=k.right;refine pick_new kr k.slot.symm ?_ ?_ ?_
  .rcases Qae s.slot 1 with h2|h2
   .have e:s.slot=0:=(by omega);rw[e,e0] at hh;rw[Xo e];exact hh
   .have e:s.slot=1:=(by omega);rw[e,e1] at hh;rw[Xd Mx];exact hh
  .unfold nm at hr;simp only[XR,Qad] at hr;exact hr.1.1.1
  .intro y hy;refine ho y ?_;obtain h2|h2:=Qae s.slot 1
   .have e:s.slot=0:=(by omega);rw[Xo e] at hy;rw[e,show 1 - 0=1 by rfl,e1];exact hy
   .have e:s.slot=1:=(by omega);rw[Xd Mx] at hy;rw[e,show 1 - 1=0 by rfl,e0];exact hy
 .unfold wasL at hc;obtain⟨b,-,rfl⟩:=QU.1 hc;exact aE.adY h.tok b
 .unfold ke;rw[ofT_len,wasL_len,Xa h.ok.pg,Xa h.ok.dg,seenOk_of _ _ (idx_nodup k.nd) λy hy=>⟨QV,?_⟩]
  .rfl
  .obtain⟨r1,r2,r3,r4,-⟩:=k.rg y hy;rw[of_get,wasL_getD Mx,r4];decide
 .have:=thr_of (bl:=s.bl) (kind:=4) (l:=s.ag) (at_:=s.au) h.ok.dg (by have:=h.ok.pg;unfold aR at this;rw[Xd Mx] at this;omega) (λy hy=>by have:=k.rg y (QD _ hy);rw[fg];exact⟨this.1,this.2.1⟩) k.th1;rw[d4] at this;rw[fg];exact this
 .have:=thr_of (bl:=s.bl) (kind:=5) (l:=wasL s.t) (at_:=s.ag) (by rw[wasL_len];exact h.ok.pg) (by rw[wasL_len];omega) (λy hy=>by have:=k.rg y (QB _ hy);rw[fg];exact⟨this.1,this.2.1⟩) k.th2;rw[wasL_len] at this;rw[fg];exact this
 .unfold EP kSt;rw[fg];congr 1;have:=k.slot;omega
def next_inv(h:BInv s hold){nx:Nat}(h2:2<=nx)(hl:nx<=s.t.len):BInv {s with next:=nx} hold:=
 ⟨⟨h.ok.bl,h.ok.fr,h.ok.pg,h.ok.dg,h.ok.rg,h2,hl,h.ok.sup,h.ok.kep,h.ok.slot,h.ok.fd⟩,h.tok,h.n16,h.live,h.need,h.nd,h.own,h.rest,h.held,h.fr⟩
def next_kinv(h:KInv s)(nx:Nat):KInv {s with next:=nx}:=
 ⟨h.slot,h.right,h.here,h.other,h.root,h.drs,h.bx,h.sb,h.sg,h.sr,h.nd,h.rg,h.th1,h.th2,h.Ej⟩
def kSt_next(h:s=kSt s s.next)(nx:Nat):kSt s nx={s with next:=nx}:=by have e:kSt s nx={kSt s s.next with next:=nx}:=rfl;rw[e,<-h]
variable{o:Oper}{F f:Nat}{L aO:Array Bool}{md:Region.Mode}{S:Wo -> Prop}{T:Nat -> Bool}{R:Act -> Prop}{r:GT}{l:List Oper}{d:Option Tmp}{op:Op}{g:Option (Nat × Bool)}
section
def wpAnyU(P:ST)(md:Region.Mode)(ops:LC)(Q:Mp)(S:Wo->Prop)(T:Nat->Bool):Nat->Array Bool->Act->Wo->Prop
 |0,aO,a,w=>Region.ready md ops aO=[]/\Q .normal a w
 |f+1,aO,a,w=>(Region.ready md ops aO=[]->Q .normal a w)/\∀i∈Region.ready md ops aO,wpOp P ops Q i (λa' w' =>(T i=false->S w->S w')/\wpAnyU P md ops Q S T f (aO.setIfInBounds i true) a' w') a w
def wpAny_of_U:∀(f:Nat) (aO:Array Bool) (a:Act) (w:Wo),wpAnyU P md ops Q S T f aO a w->wpAny P md ops Q f aO a w
 |0,_,_,_,h=>h
 |f+1,_,_,_,h=>⟨h.1,λi hi=>Qgk (λa' w' h' =>wpAny_of_U f _ a' w' h'.2) (h.2 i hi)⟩
def wpAnyU_first{S0:Wo->Prop}{i:Nat}{oi:Oper}{v:Va}{m:Nat}(hi:ops[i]? =some oi)(agd:∀(j:Nat) (o:Oper) cs b,ops[j]? =some o->o.op≠ .select cs b)
  (hQ:∀c a w,Q (.panic c) (a.put oi.dst v) w->Q (.panic c) a w) (hT:(∀w,S0 w)\/S0=S/\∀j,T j=true->BD md ops m j i=true):
  ∀(f:Nat) (aO:Array Bool) (a:Act) (w:Wo),Clo md ops aO->
   (∀j oj,ops[j]? =some oj->j≠i->aO.getD j true=false->(∀e∈oj.after,Region.binds md e=true->e.on≠i)->oi.apart ops oj=true)->
   i∈Region.ready md ops aO->YieldsIf P ops S0 oi v a->S0 w->
   wpAnyU P md ops Q S T f (aO.setIfInBounds i true) (a.put oi.dst v) w->wpAnyU P md ops Q S T (f+1) aO a w:=by
 intro f;induction f with
 |zero=>
  intro aO a w _ _ hr hy hS H;refine⟨λh=>zbN,λj hj=> ?_⟩;by_cases TB:j=i
  .subst TB;exact hy.wpOp hi hS ⟨λ_ h=>h,H⟩
  .have:=Qgm hj TB;rw[H.1] at this
   cases this
 |succ f ih=>
  intro aO a w agN BK hr hy hS H;refine⟨λh=>zbN,λj hj=> ?_⟩;by_cases TB:j=i
  .subst TB;exact hy.wpOp hi hS ⟨λ_ h=>h,H⟩
  .have hun:=(mem_ready.1 hr).1;have h1:=H.2 j (Qgm hj TB);obtain⟨agA,oj,hoj,bm⟩:=mem_ready.1 hj;have N3:∀e∈oj.after,Region.binds md e=true->e.on≠i:=λe he hb heq=>by
    have h3:=bm e he hb;rw[heq,getD_both hun] at h3
    cases h3
   have h2:=wpOp_putIf hoj (BK j oj hoj TB agA N3) (λcs b=>agd i oi cs b hi) (λcs b=>agd j oj cs b hoj) hQ hy h1;refine Qgk (λa' w' h3=>⟨h3.2.1,ih (aO.setIfInBounds j true) a' w' (agN.set hj) (λk ok hk AA agw JJ=> ?_) (Qgm hr (Xm TB)) h3.1 ?_ ?_⟩) h2
   .refine BK k ok hk AA ?_ JJ;by_cases hjk:j=k
    .subst hjk;exact agA
    .rw[getD_set_ne true hjk] at agw;exact agw
   .rcases hT with hT|⟨rfl,hT⟩
    .exact hT w'
    .refine h3.2.1 ?_ hS
     cases h:T j with
     |false=>rfl
     |true=>exact zgc
   .rw[Qix _ _ TB];exact h3.2.2
def pureB(o:Op):Bool:=match o with
 | .move _| .assign _| .nilCheck _| .fieldAddr .. | .extract .. | .build .. | .makeFunc .. | .binOp .. =>true
 |_=>false
def chkB(md:Region.Mode)(ops:LC)(Ts:GT):Array Bool->List Nat->Bool
 |_,[]=>true
 |L,i::r=>(((Region.noSelect ops&&Region.free md ops L i&&(Region.ready md ops L).contains i&&abk md ops L)&&match ops[i]? with
  |some o=>pureB o.op||Ts.all λj=>BD md ops ops.size j i
  |none=>false))&&chkB md ops Ts (L.setIfInBounds i true) r
def Tk(P:ST)(ops:LC)(S:Wo->Prop)(R:Act->Prop):List Nat->Act->Prop
 |[],a=>R a
 |i::r,a=>∀o,ops[i]? =some o->∃v,((Region.wanted o (yielded ops a.tmps)=true/\∀W,(pureB o.op=true\/S W)->(execOp a.eval o).run P W= .ok (.value v) W)\/(Region.wanted o (yielded ops a.tmps)=false/\v=undef))/\Tk P ops S R r (a.put o.dst v)
def TkL(P:ST)(ops:LC)(S:Wo->Prop)(R:Act->Prop):List Nat->List Oper->Nat->Act->Prop
 |[],_,_,a=>R a
 |_::_,[],_,_=>False
 |i::r,o::l,k,a=>if i=k then ∃v,((Region.wanted o (yielded ops a.tmps)=true/\∀W,(pureB o.op=true\/S W)->(execOp a.eval o).run P W= .ok (.value v) W)\/(Region.wanted o (yielded ops a.tmps)=false/\v=undef))/\TkL P ops S R r l (k+1) (a.put o.dst v) else TkL P ops S R (i::r) l (k+1) a
def Tk.of_L{R:Act->Prop}:∀(l:List Oper) (is:GT) (k:Nat) (a:Act),ops.toList.drop k=l->TkL P ops S R is l k a->Tk P ops S R is a
 |[],[],_,_,_,h=>h
 |[],_::_,_,_,_,h=>h.elim
 |_::_,[],_,_,_,h=>h
 |o::l,i::r,k,a,hk,h=>by
  have h1:ops.toList.drop (k+1)=l:=by rw[<-Qav,hk];rfl
  unfold TkL at h;split at h
  .rename_i e
   subst e;have h2:ops[i]? =some o:=(by have:=XF List.head? hk;rw[List.head?_drop] at this;exact zdO);intro o' ho;rw[h2] at ho
   cases ho;obtain⟨v,h3,h4⟩:=h;exact⟨v,h3,Tk.of_L l r (i+1) _ h1 h4⟩
  .exact Tk.of_L l (i::r) (k+1) a h1 h
def tX(hk:i≠k)(h:TkL P ops S R (i::r) l (k+1) a):TkL P ops S R (i::r) (o::l) k a:=by rw[TkL,Xd hk];exact h
def tS(hk:i=k)(hw:Region.wanted ⟨d,op,ty,pos,after,g⟩ (yielded ops a.tmps)=false)(h:TkL P ops S R r l (k+1) (a.put d undef)):TkL P ops S R (i::r) (⟨d,op,ty,pos,after,g⟩::l) k a:=by rw[TkL,Xo hk];exact⟨undef,.inr ⟨hw,rfl⟩,h⟩
def tP(hk:i=k)(hw:Region.wanted ⟨d,op,ty,pos,after,g⟩ (yielded ops a.tmps)=true)(hp:pureB op=true)(hv:∀W,(execOp a.eval ⟨d,op,ty,pos,after,g⟩).run P W= .ok (.value v) W)(h:TkL P ops S R r l (k+1) (a.put d v)):TkL P ops S R (i::r) (⟨d,op,ty,pos,after,g⟩::l) k a:=by rw[TkL,Xo hk];exact⟨v,.inl ⟨hw,λW _=>hv W⟩,h⟩
def tL(hk:i=k)(hw:Region.wanted ⟨d,op,ty,pos,after,g⟩ (yielded ops a.tmps)=true)(hp:pureB op=false)(hv:∀W,S W->(execOp a.eval ⟨d,op,ty,pos,after,g⟩).run P W= .ok (.value v) W)(h:TkL P ops S R r l (k+1) (a.put d v)):TkL P ops S R (i::r) (⟨d,op,ty,pos,after,g⟩::l) k a:=by rw[TkL,Xo hk];exact⟨v,.inl ⟨hw,λW hW=>hv W (hW.resolve_left (by rw[hp];decide))⟩,h⟩
def tN(h:R a):TkL P ops S R [] l k a:=by cases l<;>exact h
def allP(ops:LC)(is:GT):Bool:=is.all λi=>match ops[i]? with
 |some o=>pureB o.op
 |none=>false
def wpAnyU_bat(f:Nat)(is Ts:GT){a:Act}(hF:F=f+is.length)(hc:chkB md ops Ts L is=true)(hQ:∀c a w d v,Q (.panic c) (a.put (some d) v) w->Q (.panic c) a w)(hS:allP ops is=true\/S w)
  (h:Tk P ops S (λa' =>wpAnyU P md ops Q S (λj=>Ts.contains j) f (is.foldl (λl k=>l.setIfInBounds k true) L) a' w) is a):wpAnyU P md ops Q S (λj=>Ts.contains j) F L a w:=by
 induction is generalizing L a F with
 |nil=>subst hF;exact h
 |cons i r ih=>
  subst hF;unfold chkB at hc;simp only[XR] at hc;obtain⟨⟨⟨⟨⟨b1,b2⟩,b3⟩,b4⟩,b5⟩,c4⟩:=hc;cases ho:ops[i]? with
  |none=>rw[ho] at b5;cases b5
  |some o=>
   rw[ho] at b5;obtain⟨v,hv,h2⟩:=h o ho;have h3:=ih rfl c4 (hS.imp (λe=>by unfold allP at e|-;rw[Qce,XR] at e;exact e.2) id) h2;have hQ2:∀c a w,Q (.panic c) (a.put o.dst v) w->Q (.panic c) a w:=λc a w=>by
    cases o.dst with
    |none=>exact id
    |some d=>exact hQ c a w d v
   cases hp:pureB o.op with
   |true=>exact wpAnyU_first (S0:=λ_=>True) ho (Qgo b1) hQ2 (.inl λ_=>trivial) (m:=0) _ L a w (acn b4) (Qih ho b2) zdN (hv.imp (λhv=>⟨hv.1,λW _=>hv.2 W (.inl hp)⟩) id) trivial h3
   |false=>
    simp only[hp,Qjd] at b5;have hS:=hS.resolve_left (by rw[allP,Qce,ho];simp[hp]);exact wpAnyU_first (S0:=S) ho (Qgo b1) hQ2 (.inr ⟨rfl,fP b5⟩) _ L a w (acn b4) (Qih ho b2) zdN (hv.imp (λhv=>⟨hv.1,λW hW=>hv.2 W (.inr hW)⟩) id) hS h3
def wpAnyU_row{l:List Oper}(f:Nat)(is Ts:GT){a:Act}(hF:F=f+is.length)(hc:chkB md l.toArray Ts L is=true)(hQ:∀c a w d v,Q (.panic c) (a.put (some d) v) w->Q (.panic c) a w)(hS:allP l.toArray is=true\/S w)
  (h:TkL P l.toArray S (λa' =>wpAnyU P md l.toArray Q S (λj=>Ts.contains j) f (is.foldl (λl k=>l.setIfInBounds k true) L) a' w) is l 0 a):wpAnyU P md l.toArray Q S (λj=>Ts.contains j) F L a w:=
 wpAnyU_bat f is Ts hF hc hQ hS (Tk.of_L l is 0 a rfl h)
def uN(i:Nat){a:Act}(ho:ops[i]? =some o)(hr:Region.ready md ops aO=[i])
  (h:∀K' :Act->Wo->Prop,Shut (∀a w',(T i=false->S w->S w')->wpAnyU P md ops Q S T f (aO.setIfInBounds i true) a w'->K' a w')->if Region.wanted o (yielded ops a.tmps)=true then Oper.wp P o a w K' Q else K' (a.put o.dst undef) w):wpAnyU P md ops Q S T (f+1) aO a w:=
 ⟨λh0=>(by rw[hr] at h0;cases h0),λj hj=>by
  rw[hr,Qx] at hj;subst hj;exact Qis ho λK' hK=>h K' λa w' hS hW=>hK a w' ⟨hS,hW⟩⟩
def uN2(i j:Nat){o' :Oper}{a:Act}(ho:ops[i]? =some o)(ho' :ops[j]? =some o')(hr:Region.ready md ops aO=[i,j])
  (h:∀K' :Act->Wo->Prop,Shut (∀a w',(T i=false->S w->S w')->wpAnyU P md ops Q S T f (aO.setIfInBounds i true) a w'->K' a w')->if Region.wanted o (yielded ops a.tmps)=true then Oper.wp P o a w K' Q else K' (a.put o.dst undef) w)
  (h' :∀K' :Act->Wo->Prop,Shut (∀a w',(T j=false->S w->S w')->wpAnyU P md ops Q S T f (aO.setIfInBounds j true) a w'->K' a w')->if Region.wanted o' (yielded ops a.tmps)=true then Oper.wp P o' a w K' Q else K' (a.put o'.dst undef) w):wpAnyU P md ops Q S T (f+1) aO a w:=
 ⟨λh0=>(by rw[hr] at h0;cases h0),λk hk=>by
  rw[hr] at hk;obtain e|e:=QA.1 hk
  .subst e
   exact Qis ho λK' hK=>h K' λa w' hS hW=>hK a w' ⟨hS,hW⟩
  .rw[Qx] at e
   subst e;exact Qis ho' λK' hK=>h' K' λa w' hS hW=>hK a w' ⟨hS,hW⟩⟩
def uD{a:Act}(hr:Region.ready md ops aO=[])(h:Q .normal a w):∀f,wpAnyU P md ops Q S T f aO a w
 |0=>⟨hr,h⟩
 |_+1=>⟨λ_=>h,by rw[hr];simp⟩
def seqU(md:Region.Mode)(ops:LC):List Nat->Array Bool->Bool
 |[],L=>(Region.ready md ops L).isEmpty
 |j::r,L=>decide (Region.ready md ops L=[j])&&seqU md ops r (L.setIfInBounds j true)
def wpAnyU_list(Ts js:GT):∀(l:List Oper) (L:Array Bool) (a:Act) (w:Wo),js.map (λj=>ops[j]?)=l.map some->seqU md ops js L=true->(js.all λj=>Ts.contains j)=true->wpList P ops Q l a w->wpAnyU P md ops Q S (λj=>Ts.contains j) js.length L a w:=by
 induction js with
 |nil=>
  intro l L a w hl hB _ h;cases l with
  |nil=>exact⟨by simpa[seqU] using hB,h⟩
  |cons o l=>cases hl
 |cons j r ih=>
  intro l L a w hl hB hT h;cases l with
  |nil=>cases hl
  |cons o l=>
   rw[Zs,Zs] at hl;injection hl with ME rf;unfold seqU at hB;rw[XR,Qad] at hB;rw[Qce,XR] at hT;refine⟨λh1=>(by rw[hB.1] at h1;cases h1),λi hi=> ?_⟩;rw[hB.1,Qx] at hi;subst hi;have hw:wpOp P ops Q i (wpList P ops Q l) a w:=(by unfold wpOp;simp only[ME];exact h);exact Qgk (λa' w' h' =>⟨λe=>(by rw[show Ts.contains i=false from e] at hT;cases hT.1),ih l _ a' w' rf hB.2 hT.2 h'⟩) hw
def sel(js:GT):List Oper->Nat->List Oper
 |[],_=>[]
 |o::l,k=>if js.contains k then o::sel js l (k+1) else sel js l (k+1)
def wpAnyU_seq{l:List Oper}(js Ts:GT){a:Act}(hf:f=js.length)(hl:js.map (λj=>l.toArray[j]?)=(sel js l 0).map some)(hB:(seqU md l.toArray js L&&js.all λj=>Ts.contains j)=true)(h:wpList P l.toArray Q (sel js l 0) a w):wpAnyU P md l.toArray Q S (λj=>Ts.contains j) f L a w:=by subst hf;rw[XR] at hB;exact wpAnyU_list Ts js _ L a w hl hB.1 hB.2 h
def wp_region_U{id:Nat}{a:Act}(Ts:GT)(S:Wo->Prop)(hm:P.follows .mixedOrders=true)
  (h:wpAnyU P .any ops Q S (λj=>Ts.contains j) ops.size (Array.replicate ops.size false) a w.drew):(Code.region id ops true).wp P Q a w:=
 wp_region_any hm (wpAny_of_U _ _ _ _ h)
end
end
section
section
variable {K V : Type}{M : MK K V}{w : Wo}{m s : Nat}{f : K -> Option V}
def MG.clear(h:MG M w m f s)(ty:Fy):∃c,(Builtin.clear_ #[M.mt] ty #[.map (some m)]).run prog w= .ok (.tuple #[]) (w.putObj m (.map #[] c))/\MG M (w.putObj m (.map #[] c)) m (λ_=>none) 0/\w.grownBy (w.putObj m (.map #[] c)) (some m):=by
 obtain⟨D,⟨es,c,hb,F,_⟩,_⟩:=h;have hl:=(Qy.1 hb).1;refine⟨c,?_,⟨.map [],⟨#[],c,World.putObj_heap_same hl,⟨Sv,MapKept.stamped_empty c,Sv⟩,go,rfl⟩,rfl,⟨λ_ _ _=>rfl,λ_ _=>rfl,λ_ _ h=>zaY⟩⟩,rfl,rfl,rfl,?_,λk _ hk=>World.putObj_heap_other (λe=>hk zbl)⟩
 .simp[Builtin.clear_,Qax M.xz,Qcl hb,Qek _ hb,Result.andThen];rfl
 .simp[World.putObj]
end
section
variable {K V : Type}(M : MK K V){ops : Array Oper}{w : Wo}{Q : Exit -> Act -> Wo -> Prop}{a : Act}{rest : List Oper}{dst : Option Tmp}{om : Operand}{ty mt : TypeId}{pos : String}{after : Array Edge}{m s : Nat}{f : K -> Option V}
def wl_clear(xz:mt=M.mt)(h:MG M w m f s)(hm:a.eval om= .map (some m))(hK:∀w',MG M w' m (λ_=>none) 0->w.grownBy w' (some m)->wpList prog ops Q rest (a.put dst (.tuple #[])) w'):
  wpList prog ops Q (⟨dst,.call {callee:= .builtin .clear,args:= #[om],argTypes:= #[mt]},ty,pos,after,none⟩::rest) a w:=by
 subst xz;refine Qbi rfl λK' hK' => ?_;obtain⟨c,iq,r1,r2⟩:=h.clear ty;unfold Oper.wp;simp[execOp,resolve,invoke,builtin,hm,iq,Result.andThen];exact hK' _ _ (hK _ r1 r2)
end
def runSt_wr{α:Type}(f:α->Nat)(d:α->List Int):∀(l:List α) (bl:List (List Int)) (ws:List (Int×List Int)),iW (bl,ws) (l.map λi=>ri.wr (f i) (d i))=(bl,ws++l.map λi=>((f i:Int),d i))
 |[],bl,ws=>by simp[iW]
 |a::r,bl,ws=>by show iW (bl,ws++[((f a:Int),d a)]) (r.map λi=>ri.wr (f i) (d i))=_;rw[runSt_wr f d r,Zs,QY];rfl
def keepT_any(w:Wo)(tb cb mb:Nat)(t:aE)(h:bf w tb cb mb t)(hk:t.keep.Ok):
  Calls prog 44 #[tb] w λe w' =>(∃v,e= .returned v)/\bf w' tb cb mb t.keep/\aG (TS tb cb mb) w w' :=by
 have HB:=aa (cn w tb t.len _ _ h.x0);have h0:((t.len:Int)>0):=by have:=h.ok.n0;omega
 have H:=aa h;have HK:=aa hk;have fq:=iJ h.tc h.tm h.cm;have x1:=h.x1;have hr:Af (IntKind.i64.wrap (t.cY+t.waits)=t.keep.cY):=by have:=h.ok.frees_le;have:=h.ok.waits_le;show IntKind.wrap _ _=t.cY+t.waits;exact ww
 have Hn:=aa h.ok.J0;clear h hk;have⟨n,hn⟩:=eX t.len;rw[<-hn] at HB h0;go_in;clear hn;go_upto_region 1 with(first
  |(go_at_call 63;refine PP HB.o ?_))
 go_upto_region 2 with(refine wl_clear uj rfl H.o.kept rfl ?_;intro W3 m3 g3;have M3:=aa m3;have G3:=aa g3;clear m3 g3);have C3:=aG.dH G3.o (λx _ e=>(Qr e).symm);have T3:=aa (H.o.own.aL C3 fq.p2);obtain⟨-,-,x2,x3⟩:=mm T3.o;obtain⟨-,-,f2,f3⟩:=WI T3.o;refine wp_region_U [13,16] (λW=>jp W tb 2 (ac t.cY)/\jp W tb 3 (ac t.waits)) KJ ?_;refine wpAnyU_row 4 [0,1,2,3,4,5,6,7,8,9,10,11,12] _ rfl KJ (λ_ _ _ _ _ h=>h) (.inr ⟨x2,x3⟩) ?_;iterate 13 ((first|apply tP rfl rfl rfl;(·intro W;go_simp;with_reducible rfl)|apply tL rfl rfl rfl;(·rintro W ⟨y2,y3⟩;go_simp;with_reducible rfl));refine Pi ?_)
 refine tN ?_;refine uN 13 rfl ?_ ?_
 .kernel_rfl
 intro K hK;go_simp;refine hK.out _ _ (λh=>absurd h Fd) ?_;clear hK K;try simp only[Act.put]
 refine wpAnyU_row 1 [14,15] _ rfl KJ (λ_ _ _ _ _ h=>h) (.inl KJ) ?_;iterate 14 refine tX Fd ?_
 iterate 2 (apply tP rfl rfl rfl;(·intro W;go_simp;with_reducible rfl);refine Pi ?_)
 refine tN ?_;refine uN 16 rfl ?_ ?_
 .kernel_rfl
 intro K hK;go_simp;refine hK.out _ _ (λh=>absurd h Fd) ?_;clear hK K;try simp only[Act.put]
 refine uD KJ ?_ _;refine bodyPost_end (results_none rfl _ _ _) rfl ?_;rw[show IntKind.i64.wrap (t.cY+t.waits)=t.keep.cY from hr.o];have T4:=(T3.o.set 2 (ac t.keep.cY)).set 3 (ac 0);have C4:=(aG.refl (λx=>x=tb) W3).setCell (p:=an tb 2) (λ_=>rfl) (ac t.keep.cY) |>.setCell (p:=an tb 3) (λ_=>rfl) (ac 0);have hd:=below_drewN (Xj (rc (rc W3 tb 2 (ac t.keep.cY)) tb 3 (ac 0)).heap.size (rc (rc W3 tb 2 (ac t.keep.cY)) tb 3 (ac 0))) 1;have TA:bf (rc (rc W3 tb 2 (ac t.keep.cY)) tb 3 (ac 0)) tb cb mb t.keep:=by refine⟨T4,(H.o.counts.aL C3 fq.q2).aL C4 (λe=>fq.p1 e.symm),?_,HK.o⟩;have h1:=M3.o.aL C4 (λe=>fq.p2 e.symm);show MG uj _ mb (du (replicate t.len none)) (nS (replicate t.len none));rw[<-ko,qN];exact h1
 exact⟨⟨_,rfl⟩,TA.on hd,((C3.mono λx _ e=> .inr (.inr e)).trans (C4.mono λx _ e=> .inl e)).trans (aG.aZ hd)⟩
end
section
variable{n:Nat}
def fmtP_ok(h0:16<=n)(h1:n<=4096):anH (cZ n)/\(cZ n).t.len=n/\(cZ n).ag.length=kN n/\(cZ n).au.length=mN n:=(format_place h0 h1).2
def fmtX_ok(h0:16<=n)(h1:n<=4096):bM (zn n)/\nm (zn n)=true/\bM (⟨1,n,replicate 8 0,replicate 8 0⟩:aN)/\∀d∈(cZ n).au,0<=d/\d<=65535:=by
 obtain⟨p1,p2,p3,p4⟩:=fmtP_ok h0 h1;have hd:∀d∈(cZ n).au,0<=d/\d<n:=λd hd=>by have:=p1.rg d (QD _ hd);rwa[p2] at this
 have TH:∀d∈(cZ n).au,0<=d/\d<=65535:=λd h=>by have:=hd d h;omega
 have s0:bM (⟨1,n,replicate 8 0,replicate 8 0⟩:aN):=⟨rfl,rfl,⟨by show(0:Int)<=1;decide,by show(1:Int)<_;decide⟩,⟨by show(0:Int)<=n;omega,by show(n:Int)<_;omega⟩,λx hx=>by rw[QJ hx];exact⟨Fd,Fd⟩,λx hx=>by rw[QJ hx];exact⟨Fd,Fd⟩⟩;have s1:bM (zn n):=by have:=kZ s0 (cZ n).au TH 2 Fd;rw[rootK_two] at this;exact this
 refine⟨s1,?_,s0,TH⟩;unfold nm zn qE;simp only[XR,Qad,XT];refine⟨⟨⟨Fd,Mx⟩,Mx⟩,λx hx=> ?_⟩;obtain h|h:=Qz.1 hx
 .obtain⟨i,-,rfl⟩:=QU.1 h;rw[Qe];cases hg:(cZ n).au[i]? with
  |none=>show(0:Int)<n;omega
  |some d=>exact(hd d (Qi hg)).2
 .rw[QJ (Q6 h)];omega
def fmt_ok(h0:16<=n)(h1:n<=4096):∀s∈zeg n,abp n s:=by
 obtain⟨p1,p2,p3,p4⟩:=fmtP_ok h0 h1;have hx:=(fmtX_ok h0 h1);have hz:iy.length=128:=by simp[iy]
 have hxl:=(GK hx.1).1;intro s hs;unfold zeg tR at hs;obtain hs|hs:=Qz.1 hs
 .rcases Qz.1 hs with hs|hs
  .simp at hs;obtain rfl|rfl|rfl:=hs
   .exact⟨Mx,hz⟩
   .exact⟨Mx,hz⟩
   .trivial
  .rcases Qz.1 hs with hs|hs
   .obtain⟨i,hi,rfl⟩:=QU.1 hs;have hip:=xK hi;rw[p1.lp] at hip;refine⟨?_,(lY ⟨Fd,Fd⟩ (DN _ _)).1⟩;have:=p1.rg _ (QB _ (QI hip));rw[p2] at this;rw[Qe,Qf hip];show((cZ n).ag[i]).toNat<n;omega
   .obtain⟨i,hi,rfl⟩:=QU.1 hs;have hip:=xK hi;rw[p1.ld] at hip;refine⟨?_,(lY ⟨Fd,Fd⟩ (yk _ _)).1⟩;have:=p1.rg _ (QD _ (QI hip));rw[p2] at this;rw[Qe,Qf hip];show((cZ n).au[i]).toNat<n;omega
 .simp at hs;obtain rfl|rfl|rfl:=hs
  .trivial
  .exact⟨Mx,hxl⟩
  .trivial
def fm_ok(h0:16<=n)(h1:n<=4096):UW n:=⟨h0,h1,(format_place h0 h1).1,fmtP_ok h0 h1,fmtX_ok h0 h1,fmt_ok h0 h1⟩
def decX_zero:kA iy=none:=zaW
theorem fmt_start(h0:16<=n)(h1:n<=4096):PlG [] (aE.new n) (replicate (kN n) 0) (replicate (mN n) 0) (cZ n)/\(cZ n).fst=none:=by
 obtain⟨e1,e2⟩:=uK (n:=n) Mx;have hz:∀y∈replicate (kN n) (0:Int)++replicate (mN n) 0,y=0:=λy hy=>by rw[Qas] at hy;exact QJ hy
 have hu:=unpl_plc0 (aE.new n) 2 (replicate (kN n) 0) (replicate (mN n) 0);rw[QK,QK] at hu;have ec:anH (NX (aE.new n) 2 (replicate (kN n) 0) (replicate (mN n) 0)):=by
  refine⟨aE.ab0 Mx h1,zcI,Qg _,zcI,zdz,zdz,λy hy=> ?_,?_⟩
  .have:=hz y hy;show 0<=y/\y<((aE.new n).len:Int);rw[zG,this];omega
  .rw[hu];show((kN n+mN n:Nat):Int)<=(aE.new n).room 2;rw[new_room n Mx];have:=needV_room h0 h1;unfold kU at this;have e3:aR (aR n)=(mN n:Nat):=(by rw[<-e1,e2]);rw[<-e1] at this;rw[<-e1] at e3
   push_cast
   omega
 have G0:PlG [] (aE.new n) (replicate (kN n) 0) (replicate (mN n) 0) (NX (aE.new n) 2 (replicate (kN n) 0) (replicate (mN n) 0)):=by
  refine⟨ec,rfl,λ_=>rfl,rfl,rfl,λb hb=>absurd hb QV,λy hy h=>absurd (hz y hy) h,λi j y hi hj h=>absurd (hz y (Qi hi)) h,λy hy h=>absurd (hz y hy) h,λb _ hg=>absurd (new_get n b) hg,λ_ _=>rfl,λ_ _=>rfl,λi hi=> ?_,λi hi=> ?_⟩
  .have hi:((replicate (kN n) (0:Int)).map λ_=>false).getD i false=true:=hi;rw[Qe,Qt] at hi;cases hx:(replicate (kN n) (0:Int))[i]? with
   |none=>exact zeU
   |some v=>exact zeU
  .have hi:((replicate (mN n) (0:Int)).map λ_=>false).getD i false=true:=hi;rw[Qe,Qt] at hi;cases hx:(replicate (mN n) (0:Int))[i]? with
   |none=>exact zeU
   |some v=>exact zeU
 obtain⟨G,hf⟩:=G0.run (f:=(replicate (kN n) (0:Int)).length+(replicate (mN n) (0:Int)).length) (by rw[hu];simp);have pe:=(placeV_good (t:=aE.new n) (next:=2) (aE.ab0 Mx h1) zcB (new_sheet h0) zbM (Qg _) zcB (λy hy=>by rw[hz y hy,zG];omega)).1;rw[<-pe] at G hf;exact⟨G,hf⟩
structure FmtOk(n:Nat)(bl:List (List Int))(s:aX):Prop where
 bl:s.bl=bl
 inv:BInv s []
 kin:KInv s
 len:s.t.len=n
 keep:s=kSt s s.next
 gen:s.kept.gen=1
 root:∀i,2<=i->s.root i=0
 room:(n:Int) - 2 - 2*kU n<=s.room
 mE:∀b,s.t.mE b≠0->(b:Int)∈s.ag++s.au
theorem format_ok{bl0:List (List Int)}(hn:bl0.length=n)(h0:16<=n)(h1:n<=4096)(hb:∀p∈bl0,p.length=128/\∀y∈p,aI y):∃s,FmtOk n (iW (bl0,[]) (zeg n)).1 s:=by
 obtain⟨e1,e2⟩:=uK (n:=n) Mx;have e3:kU n=(kN n:Int)+(mN n:Int):=by unfold kU;rw[<-e1,<-e2]
 obtain⟨b1,b2,b3,b4,b5,b6⟩:=BE h0 h1;obtain⟨x1,x2,-,-⟩:=fmtX_ok h0 h1;obtain⟨G,hf⟩:=fmt_start h0 h1;obtain⟨P,hP⟩:∃P,P=cZ n:=⟨_,rfl⟩;have hX:zn n=qE ⟨1,n,replicate 8 0,replicate 8 0⟩ P.au:=by rw[hP];rfl
 rw[<-hP] at G hf;have hPl:P.t.len=n:=by rw[G.len,zG]
 have dh:P.ag.length=kN n:=by rw[G.lp];simp
 have oR:P.au.length=mN n:=by rw[G.ld];simp
 obtain⟨f1,f2⟩:=fst_done hf;have hpp:∀i,i<P.ag.length->P.pp.getD i false=true:=λi hi=>by
  obtain h|h:=f1 i hi
  .exact h
  .cases hp:P.pp.getD i false with
   |true=>rfl
   |false=>
    have:=G.wG i hp;exact zfm
 have te:∀i,i<P.au.length->P.pd.getD i false=true:=λi hi=>by
  obtain h|h:=f2 i hi
  .exact h
  .cases hp:P.pd.getD i false with
   |true=>rfl
   |false=>
    have:=G.oldd i hp;exact zfm
 have hz:∀y∈P.ag++P.au,y≠0:=λy hy=>by
  obtain hy|hy:=Qz.1 hy
  .obtain⟨i,hi⟩:=Qab hy;have hil:=(Ql.1 hi).1;rw[getD_get hil] at hi;rw[<-Qr hi];exact(G.new i (hpp i hil)).1
  .obtain⟨i,hi⟩:=Qab hy;have hil:=(Ql.1 hi).1;rw[getD_get hil] at hi;rw[<-Qr hi];exact(G.newd i (te i hil)).1
 have h2z:∀y∈P.ag++P.au,2<=y/\P.t.get y.toNat=1:=λy hy=>G.one y hy (hz y hy);have hzn:=idx_nodup λi j y hi hj=>G.nd i j y hi hj (hz y (Qi hi));have hzr:∀y∈P.ag++P.au,y<n:=λy hy=>by have:=G.ok.rg y hy;rw[hPl] at this;exact this.2
 obtain⟨ws,Ev⟩:∃ws,ws=((gG P.pp).map λi=>(((P.ag.getD i 0).toNat:Int),encI 5 (eI P.t i)))++(gG P.pd).map λi=>(((P.au.getD i 0).toNat:Int),encI 4 (bG P.ag i)):=⟨_,rfl⟩;obtain⟨bl1,hbl1⟩:∃b,b=eS bl0 [(0,iy),(1,iy)]:=⟨_,rfl⟩;obtain⟨bl,fg⟩:∃b,b=eS (eS bl1 ws) [(1,J7 (zn n))]:=⟨_,rfl⟩;have iq:(iW (bl0,[]) (zeg n)).1=bl:=by
  unfold zeg;rw[xX,xX,<-hP];have r1:iW (bl0,[]) [.wr 0 iy,.wr 1 iy,.fl]=(bl1,[]):=by rw[hbl1];rfl
  rw[r1];unfold tR;rw[xX];have r2:=runSt_wr (λi=>(P.ag.getD i 0).toNat) (λi=>encI 5 (eI P.t i)) (gG P.pp) bl1 [];have r2:iW (bl1,[]) ((gG P.pp).map (qq P.t P.ag))=_:=r2;rw[r2];have r3:=runSt_wr (λi=>(P.au.getD i 0).toNat) (λi=>encI 4 (bG P.ag i)) (gG P.pd) bl1 ([]++(gG P.pp).map λi=>(((P.ag.getD i 0).toNat:Int),encI 5 (eI P.t i)));have r3:iW (bl1,_) ((gG P.pd).map (sy P.ag P.au))=_:=r3;rw[r3,QZ,<-Ev,fg];rfl
 rw[iq];obtain⟨PA,hPA⟩:∃PA,PA=(gG P.pp).map (λi=>P.ag.getD i 0)++(gG P.pd).map λi=>P.au.getD i 0:=⟨_,rfl⟩;have eP:ws.map (·.1.toNat)=PA.map Int.toNat:=by rw[Ev,hPA];rw[QL,QL,Qbg,Qbg,Qbg,Qbg];rfl
 have hPs:PA.Sublist (P.ag++P.au):=by rw[hPA];exact List.Sublist.append (which_sub _ _ G.ok.lp) (which_sub _ _ G.ok.ld)
 have im:(ws.map (·.1.toNat)).Nodup:=by rw[eP];exact toNat_nodup (hPs.nodup hzn) λy hy=>by have:=(h2z y (hPs.subset hy)).1;omega
 have pj:∀b∈ws.map (·.1.toNat),2<=b:=λb hb=>by rw[eP] at hb;obtain⟨y,hy,rfl⟩:=QU.1 hb;have:=(h2z y (hPs.subset hy)).1;omega
 have ME:bl1.length=n:=by rw[hbl1,wrV_len,hn]
 have hlb:bl.length=n:=by rw[fg,wrV_len,wrV_len,ME]
 have hB:∀b,b≠1->bl.getD b []=(eS bl1 ws).getD b []:=λb hb=>by rw[fg];exact writeV_not _ _ _ (by simpa using hb)
 have hpage:∀i,i<P.ag.length->bl.getD (P.ag.getD i 0).toNat []=encI 5 (eI P.t i):=λi hi=>by have Wv:P.ag.getD i 0∈P.ag++P.au:=QB _ (Qi (getD_get hi));have hy:=(h2z _ Wv).1;have hy2:=hzr _ Wv;rw[hB _ Mx];have:=writeV_mem ws bl1 (((P.ag.getD i 0).toNat:Int),encI 5 (eI P.t i)) im (by rw[Ev];exact QB _ (QU.2 ⟨i,mem_which.2 (hpp i hi),rfl⟩)) (by show(((P.ag.getD i 0).toNat:Int)).toNat<_;rw[Xt,ME];omega);have this:(eS bl1 ws).getD (((P.ag.getD i 0).toNat:Int)).toNat []=encI 5 (eI P.t i):=this;rw[Xt] at this;exact this
 have hdir:∀i,i<P.au.length->bl.getD (P.au.getD i 0).toNat []=encI 4 (bG P.ag i):=λi hi=>by have Wv:P.au.getD i 0∈P.ag++P.au:=QD _ (Qi (getD_get hi));have hy:=(h2z _ Wv).1;have hy2:=hzr _ Wv;rw[hB _ Mx];have:=writeV_mem ws bl1 (((P.au.getD i 0).toNat:Int),encI 4 (bG P.ag i)) im (by rw[Ev];exact QD _ (QU.2 ⟨i,mem_which.2 (te i hi),rfl⟩)) (by show(((P.au.getD i 0).toNat:Int)).toNat<_;rw[Xt,ME];omega);have this:(eS bl1 ws).getD (((P.au.getD i 0).toNat:Int)).toNat []=encI 4 (bG P.ag i):=this;rw[Xt] at this;exact this
 have N1:bl.getD 1 []=J7 (zn n):=by rw[fg,writeV_cons];show(List.set _ 1 _).getD 1 []=_;exact getD_set_eq _ _ (by rw[wrV_len,ME];omega)
 have hzero:bl.getD 0 []=iy:=by rw[hB 0 Fd,writeV_not _ _ _ (λhm=>by have:=pj 0 hm;omega),hbl1];show((bl0.set 0 iy).set 1 iy).getD 0 []=_;rw[getD_setN _ _ _ Fd,getD_set_eq _ _ Mx]
 have hk:=keep_ok G.ok.ok;have hof:aE.of P.t.counts=P.t.keep:=(of_kept hk rfl).symm;obtain⟨s,hs⟩:∃s,s=(⟨bl,P.t.keep,2,P.ag,P.au,replicate bl.length none,zn n,zn n,1,false⟩:aX):=⟨_,rfl⟩;have q1:s.bl=bl:=zcN;have q2:s.t=P.t.keep:=zcN;have q3:s.next=2:=zcN;have q4:s.ag=P.ag:=zcN;have q5:s.au=P.au:=zcN;have q6:s.fresh=replicate bl.length none:=zcN;have q7:s.eO=zn n:=zcN;have q8:s.kept=zn n:=zcN;have q9:s.slot=1:=zcN;have YY:s.broken=false:=zcN;have hlen:s.t.len=n:=by rw[q2,keep_len,hPl]
 have eo:∀b,s.ik b=false:=λb=>by unfold aX.ik;rw[q6,Qe,Zr];split<;>rfl
 have iO:∀b,s.t.get b=P.t.get b:=λb=>by rw[q2,keep_get]
 have hwas:∀b,s.t.mE b=P.t.get b:=λb=>by rw[q2,keep_was]
 have wA:(zn n).roots=[P.au.getD 0 0,P.au.getD 1 0]++(replicate 8 (0:Int)).drop 2:=by rw[hX];rfl
 have BH:(n:Int) - 2 - kU n<=s.t.room 2:=by
  rw[q2];have e1:=room_not hk (by rw[keep_len,hPl];omega);rw[keep_len,hPl] at e1;have u1:((range n).countP λb=> !P.t.keep.freeHi b)<=(0::1::(P.ag++P.au).map Int.toNat).length:=count_le_list λb hb hp=>by
   unfold aE.freeHi aE.free at hp;rw[keep_get,keep_was,keep_len,hPl] at hp;by_cases jr:b=0
   .rw[jr];exact Qm ..
   .by_cases yZ:b=1
    .rw[yZ];exact Qs _ (Qm ..)
    .have AV:P.t.get b≠0:=λe=>(by rw[e] at hp;simp[hb] at hp;omega);refine Qs _ (Qs _ ?_);obtain h1|⟨-,h1⟩:=G.rest b (by rw[hPl];exact hb) AV
     .exact absurd h1 QV
     .exact QU.2 ⟨_,h1,Xt b⟩
  simp only[QF,Qo,Qq,dh,oR] at u1;omega
 have hneed:2*kU n<=(n:Int) - 2:=Mx;have ec:Yj s:=by
  refine⟨by rw[q1,hlb,hlen],by rw[q6,QK,hlb,hlen],by rw[q4,hlen,dh];exact e1,by rw[q5,q4,dh,oR];exact e2,?_,by rw[q3];exact Qg _,by rw[q3,hlen];omega,by rw[q7];exact x1,by rw[q8];exact x1,by rw[q9];exact Qg _,λdata hd=> ?_⟩
  .rw[q4,q5,hlen,<-hPl];exact G.ok.rg
  .rw[q6] at hd;have:=QJ hd;cases this
 have hinv:BInv s []:=by
  refine⟨ec,by rw[q2];exact hk,by rw[hlen];exact h0,YY,by rw[hlen];omega,Qfk,λb hb=>absurd hb QV,λb hb hg' => ?_,λb hb=> ?_,λb hb=> ?_⟩
  .rw[hlen] at hb;rw[iO] at hg';rw[q4,q5];obtain h1|⟨-,h1⟩:=G.rest b (by rw[hPl];exact hb) hg'
   .exact absurd h1 QV
   .exact .inr (Qz.1 h1)
  .exact zfA
  .rw[eo] at hb;cases hb
 have hgen:(zn n).gen=1:=by rw[hX];rfl
 have hkin:KInv s:=by
  refine⟨by rw[q9,q8,hgen];rfl,by rw[q8];exact x2,?_,λy hy=> ?_,?_,?_,?_,?_,zdT,?_,?_,?_,?_,?_,?_⟩
  .rw[q1,q9,q8,N1];exact decX_encX x1 x2
  .rw[q1,q9,hzero,decX_zero] at hy;cases hy
  .rw[q8,q5,hX];exact rooted_twice ⟨1,n,_,_⟩ _ 1
  .rw[q5,q8,hlen,<-oR,hX];exact rooted_take _ _ Mx Mx
  .rw[q8,hlen,hX];rfl
  .rw[q7,hlen,hX];rfl
  .rw[q7,hlen,wA];intro r hr;have key:∀i,P.au.getD i 0<n:=λi=>by
    rw[Qe];cases hx:P.au[i]? with
    |none=>show(0:Int)<n;omega
    |some d=>exact hzr d (QD _ (Qi hx))
   obtain hr|hr:=Qz.1 hr
   .rcases QA.1 hr with rfl|hr
    .exact key 0
    .rw[Qx.1 hr];exact key 1
   .rw[QJ (Q6 hr)];omega
  .exact zfL
  .rw[q4,q5];intro y hy;have h1:=h2z y hy;rw[hlen,iO,hwas,eo];exact⟨h1.1,hzr y hy,h1.2,h1.2,rfl⟩
  .rw[q5,q4,q1];intro i hi;rw[hdir i hi];refine decI_encI 4 (.inl rfl) _ (yk _ _) λy hy=> ?_;have h3:y∈P.ag++P.au:=QB _ (Q6 (Za hy));have:=hzr y h3;have:=(h2z y h3).1;omega
  .rw[q4,q1];intro i hi;rw[hpage i hi];have hcw:wasL s.t=P.t.counts:=(by rw[counts_eq];unfold wasL;rw[hlen,hPl];exact Zj λb _=>hwas b);rw[hcw];refine decI_encI 5 (.inr rfl) _ (yk _ _) λy hy=> ?_;have:=G.ok.ok.range y (Q6 (Za hy));omega
  .rw[q1,fg];refine writeV_blk _ _ (writeV_blk _ _ ?_ λw hw=> ?_) λw hw=>by rw[Qx.1 hw];exact GK x1
   .rw[hbl1];refine writeV_blk _ _ hb λw hw=> ?_;have hzb:iy.length=128/\∀y∈iy,aI y:=⟨by unfold iy;simp,λy hy=>zcu⟩;obtain rfl|hw:=QA.1 hw
    .exact hzb
    .rw[Qx.1 hw];exact hzb
   .rw[Ev] at hw;obtain hw|hw:=Qz.1 hw
    .exact zfZ
    .obtain⟨i,-,rfl⟩:=QU.1 hw;exact lY IN (yk _ _)
 refine⟨s,q1,hinv,hkin,hlen,?_,by rw[q8];exact hgen,λi hi=> ?_,?_,λb hb=> ?_⟩
 .refine unchanged hinv hkin ?_ zdT;rw[q2];unfold aE.changed;rw[List.length_eq_zero_iff,List.filter_eq_nil_iff];intro b _;unfold aE.keep;rw[rep_none];simp
 .unfold aX.root;rw[q7,wA,Qe,QM zal,Zb,Zr];split<;>rfl
 .rw[hinv.room,hlen];omega
 .rw[hwas] at hb;rw[q4,q5];have fg:b<P.t.len:=by
   obtain h|h:=Qae b P.t.len
   .exact h
   .refine absurd ?_ hb;unfold aE.get;rw[Qe,QQ h];rfl
  obtain h1|⟨-,h1⟩:=G.rest b fg hb
  .exact absurd h1 QV
  .exact h1
variable{s s' :aX}{T:GT}{dep:Nat}{ae:List (Nat × Int)}{at_:Fr}
def bareC(b:Int):ak:=⟨0,0,[b],[⟨0,0,[]⟩]⟩
def bare_ok{b:Int}(h:0<=b/\b<4096):ur (bareC b):=by
 refine⟨⟨zdE,rfl,lm,(by decide:0<256),rfl,λs hs=> ?_,λs hs=>absurd hs QV,Qfk,λe he=>absurd he QV,λe he=>absurd he QV⟩,λe he=>absurd he QV,λx hx=> ?_⟩
 .have hs:=hs;rw[Qx.1 hs];decide
 .have hx:=hx;rw[Qx.1 hx];exact h
structure MakeOk(s:aX)(b1 b2:Int)(s1 s2 s' :aX):Prop where
 e1:s.put (encS ⟨0,0,[]⟩)=(b1,0,s1)
 e2:s1.put (encI 4 [b1])=(b2,0,s2)
 r1:0<=b1/\b1<65536
 r2:2<=b2/\b2<s2.t.len
 live:s2.broken=false
 res:s' =(s2.cM 3 b2).2
 inv:HInv s' 0 [(1,b1)] [b2] [bareC b1]
 room:s'.room=s.room - 2
 eff:∃T,Eff s s' T/\∀x∈T,(x:Int)∉s.ag++s.au
 blocks:s'.eO.blocks=s.eO.blocks
 gen:s'.eO.gen=s.eO.gen
 low:∀j,j<3->s'.root j=s.root j
theorem make_ok(h:BInv s [])(hr:2<=s.room)(OI:∀i,3<=i->i<8->s.root i=0):∃b1 b2 s1 s2 s',MakeOk s b1 b2 s1 s2 s' :=by
 have j5:=h.tok.n1;have Nk:=LX ⟨0,0,[]⟩ IN Fd;obtain⟨b1,s1,e1,p1⟩:=put_ok h (encS ⟨0,0,[]⟩) Nk.1 Nk.2 Mx;have TF:=lY (k:=4) (l:=[(b1:Int)]) IN Sv;obtain⟨b2,s2,e2,p2⟩:=put_ok p1.inv (encI 4 [(b1:Int)]) TF.1 TF.2 (by have:=p1.room;omega);have o2:=p2.inv.own b2 (Qm ..);have o1:=p2.inv.own b1 (Qs _ (Qm ..));have bT:b1≠b2:=λe=>by have:=p2.inv.nd;rw[e] at this;simp at this
 have rf:s2.t.len=s.t.len:=by rw[p2.len,p1.len]
 obtain⟨r1,r2,r3,r4,r5,r6,r7⟩:=root_eff p2.inv (i:=0) Fd (b:=(b2:Int)) (Or.inr ⟨Mx,Mx⟩);obtain⟨s',hs'⟩:∃x,x=(s2.cM (3+0) (b2:Int)).2:=⟨_,rfl⟩;rw[<-hs'] at r1 r2 r3 r4 r5 r6 r7;have hl' :s'.t.len=s.t.len:=by rw[r2.len,rf]
 have hrd2:s'.read b2=encI 4 [(b1:Int)]:=by rw[r2.rd b2 QV,p2.rd]
 have hrd1:s'.read b1=encS ⟨0,0,[]⟩:=by rw[r2.rd b1 QV,(p2.other b1 bT).1,p1.rd]
 have hG:ur (bareC b1):=bare_ok ⟨Mx,Mx⟩;have hbi:BInv s' (([(b2:Int)]++dD [bareC b1]).map Int.toNat):=by have e:([(b2:Int)]++dD [bareC b1]).map Int.toNat=[b2,b1]:=rfl;rw[e];exact r1
 have hexp:expand [(1,(b1:Int))]=[(b1:Int)]:=rfl;refine⟨b1,b2,s1,s2,s',e1,e2,⟨Mx,Mx⟩,⟨Mx,Mx⟩,p2.inv.live,hs',⟨hbi,⟨⟨⟨Fd,rfl,Sv,λsg Ay=> ?_,λj sg hj=> ?_⟩,rfl,λi hi=> ?_,λi h1 h2=> ?_,⟨_,Qx.2 rfl,rfl⟩⟩,rfl,λj sg c hj hc=> ?_,by simp[bareC],by simp[bareC]⟩,λc hc=> ?_,λc hc e he=> ?_⟩,by rw[r3,p2.room,p1.room];omega,⟨_,(p1.eff.trans p2.eff).trans r2,?_⟩,?_,?_,λj hj=> ?_⟩
 .rw[Qx.1 Ay];show 0<(b1:Int)/\(b1:Int)<4096;omega
 .cases j with
  |zero=>
   have hj:(1,(b1:Int))=sg:=Qr hj;rw[<-hj];exact⟨0,Qg _,rfl,rfl⟩
  |succ j=>simp at hj
 .have hi:i<1:=hi;have ml:i=0:=by omega
  rw[ml];refine⟨by rw[r4,Xo rfl];rfl,b2,rfl,Mx,by rw[hl'];omega,?_⟩;rw[hrd2,hexp];refine decI_encI 4 (.inl rfl) _ Sv λx hx=> ?_;rw[Qx.1 hx];omega
 .have h1:1<=i:=h1;rw[r4,Xd Mx];unfold aX.root;rw[p2.same.1,p1.same.1];exact OI (3+i) Mx Mx
 .cases j with
  |zero=>
   have hj:(1,(b1:Int))=sg:=Qr hj;have hc:bareC b1=c:=Qr hc;rw[<-hj,<-hc];refine⟨⟨rfl,zdE,λk hk=> ?_,zdE⟩,hG.dz,rfl,(Xz (2^(8 - 0))).symm,0,Qg _,rfl,rfl⟩;have hk:k<1:=hk;have SK:k=0:=Mx;rw[SK];refine⟨b1,⟨0,0,[]⟩,rfl,Mx,by rw[hl'];omega,rfl,?_,rfl⟩;rw[hrd1];exact decS_encS _ Fd Fd λe he=>absurd he QV
  |succ j=>simp at hj
 .rw[Qx.1 hc];exact hG
 .rw[Qx.1 hc] at he;exact absurd he QV
 .intro x hx;rw[QZ] at hx;have hx:x=b2\/x=b1:=by simpa using hx
  rw[Qz];obtain rfl|rfl:=hx
  .obtain⟨-,-,-,q1,q2,-⟩:=o2;exact zeQ
  .obtain⟨-,-,-,q1,q2,-⟩:=o1;exact zeQ
 .rw[r7,p2.same.1,p1.same.1]
 .rw[r6,p2.same.1,p1.same.1]
 .rw[r4,Xd Mx];unfold aX.root;rw[p2.same.1,p1.same.1]
def WasP(s:aX):Prop:=∀b,s.t.mE b≠0->(b:Int)∈s.ag++s.au
def WasP.eff(h:WasP s)(e:Eff s s' T):WasP s' :=λb hb=>by rw[e.mE] at hb;rw[e.ag,e.au];exact h b hb
def KInv.eff(k:KInv s)(e:Eff s s' T)(hT:∀x∈T,(x:Int)∉s.ag++s.au)(hb:s'.eO.blocks=s.eO.blocks)(hg:s'.eO.gen=s.eO.gen)(hr:∀r∈s'.eO.roots,r<s'.t.len):KInv s' :=by
 refine⟨by rw[e.slot,e.kept];exact k.slot,by rw[e.kept];exact k.right,by rw[e.bl,e.slot,e.kept];exact k.here,by rw[e.bl,e.slot,e.kept];exact k.other,by rw[e.kept,e.au];exact k.root,by rw[e.au,e.kept,e.len];exact k.drs,by rw[e.kept,e.len];exact k.bx,by rw[hb,e.len];exact k.sb,by rw[hg,e.kept];exact k.sg,hr,by rw[e.ag,e.au];exact k.nd,?_,by rw[e.au,e.bl,e.ag];exact k.th1,?_,e.bl▸k.Ej⟩
 .rw[e.ag,e.au,e.len];intro y hy;obtain⟨r1,r2,r3,r4,r5⟩:=k.rg y hy;have hn:y.toNat∉T:=λhm=>hT _ hm (by rw[show((y.toNat:Nat):Int)=y by omega];exact hy);exact⟨r1,r2,by rw[e.gt _ hn];exact r3,by rw[e.mE];exact r4,by rw[e.fr _ hn];exact r5⟩
 .have hw:wasL s'.t=wasL s.t:=by rw[wasL,e.len];exact Zj λb _=>e.mE b
  rw[e.ag,e.bl,hw];exact k.th2
def HInv.roots{cs:List ak}(h:HInv s dep ae at_ cs)(hl:∀j,j<3->s.root j<s.t.len):∀r∈s.eO.roots,r<s.t.len:=λr hr=>by
 have h8:=h.inv.ok.sup.r8;have hn:=h.inv.n16;obtain⟨j,hj⟩:=Qab hr;have hj8:j<8:=by rw[<-h8];exact(Ql.1 hj).1
 have e:s.root j=r:=by rw[aX.root,Qe,hj];rfl
 rw[<-e];obtain h3|h3:=Qae j 3
 .exact hl j h3
 .obtain⟨i,rfl⟩:∃i,j=3+i:=⟨j - 3,Mx⟩;obtain hi|hi:=Qae i at_.length
  .obtain⟨h1,k,h2,h4,h5,-⟩:=h.ok.dir.rt i hi;rw[h1,h2];omega
  .rw[h.ok.dir.no i hi Mx];omega
def KInv.low(k:KInv s)(h8:s.eO.roots.length=8)(j:Nat)(hj:j<8):s.root j<s.t.len:=by refine k.sr _ ?_;rw[aX.root,Qe,Qf Mx];exact QI _
theorem added_many{A B:List ak}{c:ak}{e:aD}(h:HInv s dep ae at_ (A++[c]++B))(he:tw e)(h0:0<=e.block)(bT:e∉c.all)(hi:bY c.ax c.depth (bz e)=true):
  (dD (cP 9 c e)).length<=c.blocks.length+10:=by
 obtain⟨hw,-,-⟩:=added_swap h he h0 bT hi;have h1:=(kept_perm h hw).length_eq;have oS:c∈A++[c]++B:=QB _ (QD _ (Qx.2 rfl));have hG:=h.ch c oS;have hz:=added_zeros 9 c e hG.ok.d8 hG hi (by rw[List.count_eq_zero];intro h2;have:=h.ne oS 0 (Qgh h2);omega);have e1:dD [c]=c.blocks:=by unfold dD;simp
 rw[e1,Qo] at h1;have h2:=Qhc (λb:Int=>b !=0) (l:=dD (cP 9 c e));rw[Qeu] at h2;have h3:List.countP (λb:Int=>decide ¬(b !=0)=true) (dD (cP 9 c e))=(dD (cP 9 c e)).count 0:=by unfold List.count;refine Qeh λb _=> ?_;by_cases hb:b=0<;>simp[hb]
 omega
structure BareS(n:Nat)(s:aX):Prop where
 inv:BInv s []
 kin:KInv s
 mE:WasP s
 len:s.t.len=n
 gen:s.kept.gen=1
 root:∀i,3<=i->i<8->s.root i=0
 room:2<=s.room
 opn:IW s.bl s.kept s.ag s.au (wasL s.t)
 eq:EP s.bl s.kept s.ag s.au (wasL s.t)=s
def needV_small(h0:16<=n)(h1:n<=4096):2<=(n:Int) - 2 - 2*kU n:=by unfold kU aR;rw[Xd Mx,Xd Mx];omega
def bare_plain(h0:16<=n)(h1:n<=4096):∃s,s.bl=(iW (replicate n iy,[]) (zeg n)).1/\BareS n s:=by
 obtain⟨s0,h⟩:=format_ok (bl0:=replicate n iy) (n:=n) Sv h0 h1 (λp hp=>by rw[QJ hp];exact⟨by unfold iy;simp,λy hy=>zcu⟩);have hs:=needV_small h0 h1;have hr:=h.room;obtain⟨o1,o2⟩:=open_k h.inv h.kin;have hn:=kSt_next h.keep 2;have⟨s,Eb⟩:=eX (kSt s0 2);rw[<-Eb] at o2 hn;have hw:wasL s.t=wasL s0.t:=by rw[hn]
 have hi:BInv s []:=hn▸(next_inv h.inv go (by rw[h.len];omega));have hk:KInv s:=hn▸(next_kinv h.kin 2);refine⟨s,by rw[hn];exact h.bl,hi,hk,?_,by rw[hn];exact h.len,by rw[hn];exact h.gen,λi hi _=> ?_,?_,?_,?_⟩
 .rw[hn];exact h.mE
 .rw[hn];exact h.root i Mx
 .rw[hn];show 2<=s0.room;omega
 .rw[hw,hn];exact o1
 .rw[hw,hn];rw[hn] at o2;exact o2
structure BegS(n:Nat)(s:aX)(b1 b2:Int):Prop where
 inv:HInv s 0 [(1,b1)] [b2] [bareC b1]
 kin:KInv s
 mE:WasP s
 len:s.t.len=n
 gen:s.kept.gen=1
def make_beg(h:BareS n s):∃b1 b2 s1 s2 s',MakeOk s b1 b2 s1 s2 s'/\BegS n s' b1 b2:=by obtain⟨b1,b2,s1,s2,s',m⟩:=make_ok h.inv h.room h.root;obtain⟨T,e,hT⟩:=m.eff;have h8:=h.inv.ok.sup.r8;refine⟨b1,b2,s1,s2,s',m,m.inv,h.kin.eff e hT m.blocks m.gen (m.inv.roots λj hj=> ?_),h.mE.eff e,by rw[e.len];exact h.len,e.kept▸h.gen⟩;rw[m.low j hj,e.len];exact h.kin.low h8 j Mx
structure HashS(s:aX)(dep:Nat)(ae:List (Nat×Int))(at_:Fr)(cs:List ak):Prop where
 inv:HInv s dep ae at_ cs
 kin:KInv s
def BegS.hash{b1 b2:Int}(h:BegS n s b1 b2):HashS s 0 [(1,b1)] [b2] [bareC b1]:=⟨h.inv,h.kin⟩
def SwapOk.kin{dep0 dep:Nat}{segs0:List (Nat×Int)}{at_:Fr}{A G C B:List ak}{room:Int}{s' :aX}{at' :Fr}{C' :List ak}(h:SwapOk s dep at_ A C B room s' at' C')(h0:HInv s dep0 segs0 at_ (A++G++B))(k:KInv s):KInv s' :=by obtain⟨T,e,hT⟩:=h.eff;refine k.eff e hT h.blocks h.gen (h.inv.roots λj hj=> ?_);rw[h.low j hj,e.len];exact k.low h0.inv.ok.sup.r8 j Mx
variable{cs:List ak}
theorem gD{α:Type}{l:List α}{i:Nat}{x:α}(d:α)(h:l[i]? =some x):l.getD i d=x/\i<l.length:=by
 rw[Qe,h];exact⟨rfl,(Ql.1 h).1⟩
def ChD(s:aX)(dep:Nat)(ae:List (Nat×Int))(j:Nat)(g:Nat×Int)(c:ak):Prop:=
 g.1=2^g.1.log2/\g.1.log2<=dep/\aC ae j%g.1=0/\c.blocks.getD 0 0=g.2/\c.ax=aC ae j*2^(8 - dep)/\c.depth=dep - g.1.log2/\dz c=true/\c.blocks.length=c.ah.length/\c.ah≠[]/\c.blocks.Nodup/\
 (∀k,k<c.blocks.length->0<c.blocks.getD k 0/\c.blocks.getD k 0<s.t.len/\mJ (s.read (c.blocks.getD k 0).toNat)=c.ah[k]?/\(c.ah.getD k ⟨0,0,[]⟩).next=c.blocks.getD (k+1) 0)/\
 (∀e∈c.all,(0<=e.print/\e.print<18446744073709551616)/\e.block≠0/\e.block<4096)/\∀x∈c.blocks,0<=x/\x<4096
instance (s:aX) (dep:Nat) (ae:List (Nat×Int)) (j:Nat) (g:Nat×Int) (c:ak):Decidable (ChD s dep ae j g c):=by unfold ChD;infer_instance
def CkD(s:aX)(dep:Nat)(ae:List (Nat×Int))(at_:List Int)(cs:List ak):Prop:=
 s.broken=false/\dep<=8/\(expand ae).length=2^dep/\(ae.map Prod.snd).Nodup/\(∀x∈ae,0<x.2/\x.2<4096)/\(at_.length:Int)=aR (2^dep:Nat)/\
 (∀i,i<at_.length->s.root (3+i)=at_.getD i 0/\2<=at_.getD i 0/\at_.getD i 0<s.t.len/\pB 4 (s.read (at_.getD i 0).toNat)=some (bG (expand ae) i))/\
 (∀i,i<5->at_.length<=i->s.root (3+i)=0)/\(∃g∈ae,g.1=1)/\cs.length=ae.length/\(cs.flatMap (·.blocks)).Nodup/\(cs.flatMap (·.blocks)).length<=4096/\
 ∀j,j<ae.length->ChD s dep ae j (ae.getD j (0,0)) (cs.getD j ⟨0,0,[],[]⟩)
instance (s:aX) (dep:Nat) (ae:List (Nat×Int)) (at_:List Int) (cs:List ak):Decidable (CkD s dep ae at_ cs):=by unfold CkD;infer_instance
theorem CkD.ck(h:CkD s dep ae at_ cs):CK s dep ae at_ cs:=by
 obtain⟨a1,a2,a3,a4,a5,a6,a7,a8,a9,a10,a11,a12,a13⟩:=h;have hc:∀(j:Nat) (g:Nat×Int) (c:ak),ae[j]? =some g->cs[j]? =some c->ChD s dep ae j g c:=fun j g c hg hc=>by have h1:=a13 j (gD (0,0) hg).2;rwa[(gD (0,0) hg).1,(gD _ hc).1] at h1
 have hs:∀(j:Nat) (g:Nat×Int),ae[j]? =some g->∃c,cs[j]? =some c:=fun j g hg=>⟨_,Qf (by rw[a10];exact(gD (0,0) hg).2)⟩
 refine⟨a1,⟨⟨⟨a2,a3,a4,a5,fun j g hg=> ?_⟩,a6,fun i hi=> ?_,fun i h1 h2=>a8 i h2 h1,a9⟩,a10,fun j g c hg Z0=> ?_,a11,a12⟩,fun c oS=> ?_⟩
 .obtain⟨c,Z0⟩:=hs j g hg;obtain⟨b1,b2,b3,-⟩:=hc j g c hg Z0;exact⟨_,b2,b1,b3⟩
 .obtain⟨b1,b2,b3,b4⟩:=a7 i hi;exact⟨b1,(at_.getD i 0).toNat,by omega,by omega,by omega,b4⟩
 .obtain⟨b1,b2,b3,b4,b5,b6,b7,b8,b9,wC,Ek,-⟩:=hc j g c hg Z0;refine⟨⟨b8,b9,fun k hk=> ?_,wC⟩,b7,b4,b5,_,b2,b1,b6⟩;obtain⟨c1,c2,c3,c4⟩:=Ek k hk;have si:k<c.ah.length:=by rw[<-b8];exact hk
  refine⟨(c.blocks.getD k 0).toNat,c.ah[k],?_,by omega,by omega,Qf si,by rw[c3];exact Qf si,?_⟩
  .rw[Xp (by omega),Qe,Qf hk];rfl
  .rw[<-c4,Qe,Qf si];rfl
 .obtain⟨j,hj⟩:=Qab oS;obtain⟨b1,b2,b3,b4,b5,b6,b7,b8,b9,wC,Ek,Be,mO⟩:=hc j _ c (Qf (by rw[<-a10];exact(gD c hj).2)) hj;exact⟨(FT c fun sh ta e he=>(Be e (QT.2 ⟨sh,ta,he⟩)).1.1).1 b7,fun e he=>⟨(Be e he).1,(Be e he).2.1,(Be e he).2.2⟩,mO⟩
def mpI(f:Nat->aM->aM):Nat->List aM->List aM
 |_,[]=>[]
 |i,x::r=>f i x::mpI f (i+1) r
theorem Pk:∀(l:List aM) (f:Nat->aM->aM) (i:Nat),mpI f i l=l.mapIdx fun n=>f (n+i)
 |[],_,_=>rfl
 |x::r,f,i=>by
  rw[List.mapIdx_cons,QR];refine XF _ ((Pk r f (i+1)).trans ?_)
  congr
  funext n
  rw[XB,Qcm 1 i]
def YO(cells:List aM)(i:Nat)(c:ak):List aM:=mpI (fun n x=>if bY c.ax c.depth n then⟨c.blocks.getD 0 0,c.depth,i+1⟩ else x) 0 cells
theorem Sg:YO=fE:=by
 funext cells i c
 exact Pk _ _ _
def BC(dep:Nat)(ae:List (Nat×Int))(at_:List Int)(gone ao:List ak):qD:=
 let cells:=foldI YO 0 ao (bc dep ae)
 let d:=jC cells
 let bP:=dS d cells
 let ag:=jF at_ (expand ae) bP
 ⟨cells,d,bP,ag,foldI (dA ag) 0 at_ (iY gone ao)⟩
theorem Cm(dep:Nat)(ae:List (Nat×Int))(at_:List Int):BC dep ae at_=bt dep ae at_:=by
 funext gone ao
 unfold BC;rw[Sg];rfl
def ahx(P:List ak->List ak->qD)(s:aX)(cs gone ao:List ak):Int×aX:=
 if kW cs gone ao=false then(2,s) else if gO s (P gone ao).gone<qt (P gone ao).ag ao then(90,s) else(0,BQ s (P gone ao) ao)
def anG(P:List ak->List ak->qD)(s:aX)(cs:List ak)(e:aD):Int×aX:=
 if e.block=0\/(s.t.len:Int)<=e.block then(2,s)
 else match Bf cs (bz e) with
 |none=>(0,s)
 |some c=>if e∈c.all then(0,s) else ahx P s cs [c] (cP 9 c e)
def UQ(s:aX)(dep:Nat)(ae:List (Nat×Int))(at_:List Int)(cs:List ak)(e:aD):Int×aX:=anG (BC dep ae at_) s cs e
theorem VW:UQ=zq:=by
 funext s dep ae at_ cs e
 unfold UQ;rw[Cm];rfl
def BX(P:List ak->List ak->qD)(s:aX)(gone ao:List ak):Prop:=
 (dD ao).length<=100000/\(∀c∈ao,(c.blocks.length=c.ah.length/\c.blocks.length<=4096/\∀x∈c.blocks,0<=x/\x<4096)/\c.depth<=8/\c.ax<256/\c.ah≠[]/\∀sh∈c.ah,bC ⟨c.depth,0,sh.es⟩=true)/\
  jJ (dS (P gone ao).dep (foldI bB 0 ao (dN s (P gone ao).gone,(P gone ao).cells)).2) (P gone ao).ag (foldI bB 0 ao (dN s (P gone ao).gone,(P gone ao).cells)).1
instance (P:List ak->List ak->qD) (s:aX) (gone ao:List ak):Decidable (BX P s gone ao):=by unfold BX jJ;infer_instance
theorem BX.ok{gone ao:List ak}(h:BX (BC dep ae at_) s gone ao):ahs s dep ae at_ gone ao:=by
 rw[Cm] at h;refine⟨h.1,fun c hc=> ?_,fun c hc sh hs n h1 h2=> ?_,fun _=>h.2.2⟩
 .obtain⟨⟨b1,b2,b3⟩,b4,b5,b6,-⟩:=h.2.1 c hc;exact⟨⟨b1,b2,b3⟩,b4,b5,b6⟩
 .have h3:=(h.2.1 c hc).2.2.2.2 sh hs;unfold bC at h3|-;simp only[XR,Qad] at h3|-;obtain⟨⟨⟨⟨⟨g1,-⟩,g3⟩,g4⟩,g5⟩,g6⟩:=h3;exact⟨⟨⟨⟨⟨g1,h2⟩,g3⟩,g4⟩,g5⟩,g6⟩
def Kj(s:aX)(dep:Nat)(ae:List (Nat×Int))(at_:List Int)(cs:List ak)(e:aD):Prop:=
 match Bf cs (bz e) with
 |none=>True
 |some c=>e∈c.all\/BX (BC dep ae at_) s [c] (cP 9 c e)
instance (s:aX) (dep:Nat) (ae:List (Nat×Int)) (at_:List Int) (cs:List ak) (e:aD):Decidable (Kj s dep ae at_ cs e):=by unfold Kj;split<;>infer_instance
theorem Kj.ok{e:aD}(h:Kj s dep ae at_ cs e):YV s dep ae at_ cs e:=fun c hc he _=>by
 unfold Kj at h;rw[hc] at h;exact(h.resolve_left he).ok
def Yp:List Int->List (Nat×Int)
 |[]=>[]
 |x::r=>match Yp r with
  |[]=>[(1,x)]
  |(n,y)::l=>if x=y then(n+1,y)::l else(1,x)::(n,y)::l
def chX(s:aX):Nat->Int->List (Int×ay)
 |0,_=>[]
 |f+1,b=>if b=0 then[] else match mJ (s.read b.toNat) with
  |none=>[]
  |some sh=>(b,sh)::chX s f sh.next
def atX(s:aX):List Int:=((List.range 5).map fun i=>s.root (3+i)).filter fun r=>r !=0
def slX(s:aX):List Int:=(atX s).flatMap fun r=>(pB 4 (s.read r.toNat)).getD []
def wS(s:aX):List (Nat×Int):=Yp (slX s)
def Fa(s:aX):Nat:=(slX s).length.log2
def TT(s:aX):List ak:=(List.range (wS s).length).map fun j=>
 ⟨aC (wS s) j*2^(8 - Fa s),Fa s - ((wS s).getD j (0,0)).1.log2,(chX s 30 ((wS s).getD j (0,0)).2).map Prod.fst,(chX s 30 ((wS s).getD j (0,0)).2).map Prod.snd⟩
def Ei(n:Nat):List (List Int):=(iW (List.replicate n iy,[]) (zeg n)).1
def YZ(n:Nat):aN:=(qu ((Ei n).getD 0 []) ((Ei n).getD 1 [])).getD aV
def Wb(n:Nat):List Int:=(YZ n).roots.take (mN n)
def M0(n:Nat)(k:Int)(l:List Int):List (List Int):=l.map fun b=>(pB k ((Ei n).getD b.toNat [])).getD []
def Y0(n:Nat):List Int:=(M0 n 4 (Wb n)).flatten
def opC(n:Nat):List Int:=(M0 n 5 (Y0 n)).flatten
def Tl(n:Nat):aX:=EP (Ei n) (YZ n) (Y0 n) (Wb n) (opC n)
def Kc(n:Nat)(kind:Int)(m:Nat)(l:List Int):Prop:=
 ∀k,k<l.length->2<=l.getD k 0/\l.getD k 0<n/\pB kind ((Ei n).getD (l.getD k 0).toNat [])=some ((M0 n kind l).getD k [])/\(((M0 n kind l).getD k []).length:Int)=min ((m:Int) - k*61) 61
instance (n:Nat) (kind:Int) (m:Nat) (l:List Int):Decidable (Kc n kind m l):=by unfold Kc;infer_instance
def WM(n:Nat):Prop:=
 (Ei n).length=n/\qu ((Ei n).getD 0 []) ((Ei n).getD 1 [])=some (YZ n)/\(YZ n).blocks=n/\(Wb n).length=mN n/\qE (YZ n) (Wb n)=YZ n/\(Y0 n).length=kN n/\(opC n).length=n/\(∀c∈opC n,0<=c/\c<=65535)/\(∀y∈Y0 n++Wb n,0<=y/\y<n)/\
 ke (aE.of (opC n)) (Y0 n) (Wb n)=true/\Kc n 4 (kN n) (Wb n)/\Kc n 5 n (Y0 n)
instance (n:Nat):Decidable (WM n):=by unfold WM;infer_instance
theorem Kc.ok{kind:Int}{m:Nat}{l:List Int}(hn:(Ei n).length=n)(h:Kc n kind m l):∃ls,IQ (Ei n) kind m l ls/\ls.flatten=(M0 n kind l).flatten:=by
 refine⟨M0 n kind l,⟨by unfold M0;simp,fun x hx=> ?_,fun k hk=> ?_⟩,rfl⟩
 .obtain⟨k,hk⟩:=Qab hx;have si:=(gD [] hk);have h1:=(h k (by have:=si.2;unfold M0 at this;simpa using this)).2.2.2;rw[si.1] at h1;omega
 .obtain⟨b1,b2,b3,b4⟩:=h k hk;have hi:(l.getD k 0).toNat<(Ei n).length:=by omega
  refine⟨(l.getD k 0).toNat,?_,by omega,hi,(M0 n kind l).getD k [],?_,?_,b4⟩
  .rw[Xp (by omega),Qe,Qf hk];rfl
  .have hk3:k<(M0 n kind l).length:=by unfold M0;simpa using hk
   rw[Qe,Qf hk3];rfl
  .rw[<-b3];exact XF _ (by rw[Qe (l:=Ei n),Qf hi];rfl)
theorem WM.opn(h:WM n):IW (Ei n) (YZ n) (Y0 n) (Wb n) (opC n):=by
 obtain⟨a1,a2,a3,a4,a5,a6,a7,a8,a9,a10,a11,a12⟩:=h;exact⟨fun p0 p1 h0 h1=>by rw[<-(gD [] h0).1,<-(gD [] h1).1];exact a2,by rw[a1];exact a3,by rw[a1];exact a4,by rw[a1];rfl,a5,by rw[a1];exact a6,by rw[a1];exact a7,a8,by rw[a1];exact a9,a10,by rw[a1];exact a11.ok a1,by rw[a1];exact a12.ok a1⟩
def Oh(t:aE):Prop:=1<=t.len/\t.len<=4096/\t.kept.length=t.len/\(∀c∈t.counts,0<=c/\c<=65535)/\(∀o∈t.kept,o.all (fun c=>decide (0<=c/\c<=65535))=true)/\t.cY=(List.range t.len).countP t.free/\t.waits=(List.range t.len).countP t.pD
instance (t:aE):Decidable (Oh t):=by unfold Oh;infer_instance
theorem Oh.ok{t:aE}(h:Oh t):t.Ok:=⟨h.1,h.2.1,h.2.2.1,h.2.2.2.1,fun c hc=>by simpa using h.2.2.2.2.1 _ hc,h.2.2.2.2.2.1,h.2.2.2.2.2.2⟩
def Kd(s:aN):Prop:=s.roots.length=8/\s.marks.length=8/\(0<=s.gen/\s.gen<18446744073709551616)/\(0<=s.blocks/\s.blocks<4294967296)/\(∀x∈s.roots,0<=x/\x<4294967296)/\∀x∈s.marks,0<=x/\x<18446744073709551616
instance (s:aN):Decidable (Kd s):=by unfold Kd;infer_instance
theorem Kd.ok{s:aN}(h:Kd s):bM s:=⟨h.1,h.2.1,h.2.2.1,h.2.2.2.1,h.2.2.2.2.1,h.2.2.2.2.2⟩
def Yn(n:Nat):ri->Bool
 | .wr i data=>decide (i<n)&&data.length==128
 | .fl=>true
def Yf(n:Nat):Prop:=
 (16<=n/\n<=4096/\(fm (aE.new n) 2 (List.replicate (kN n) 0) (List.replicate (mN n) 0)).1=0)/\
 (Oh (cZ n).t/\2<=(cZ n).t.len/\2<=(cZ n).next/\(cZ n).next<=(cZ n).t.len/\(cZ n).pp.length=(cZ n).ag.length/\(cZ n).pd.length=(cZ n).au.length/\(∀y∈(cZ n).ag++(cZ n).au,0<=y/\y<(cZ n).t.len)/\(Bl (cZ n):Int)<=(cZ n).t.room 2)/\
 ((cZ n).t.len=n/\(cZ n).ag.length=kN n/\(cZ n).au.length=mN n)/\
 (Kd (zn n)/\nm (zn n)=true/\Kd (⟨1,n,List.replicate 8 0,List.replicate 8 0⟩:aN)/\∀d∈(cZ n).au,0<=d/\d<=65535)/\(zeg n).all (Yn n)=true
instance (n:Nat):Decidable (Yf n):=by unfold Yf;infer_instance
theorem Yf.ok(h:Yf n):UW n:=by
 obtain⟨⟨a1,a2,a3⟩,⟨b1,b2,b3,b4,b5,b6,b7,b8⟩,c,⟨d1,d2,d3,d4⟩,e⟩:=h;refine⟨a1,a2,a3,⟨⟨b1.ok,b2,b3,b4,b5,b6,b7,b8⟩,c⟩,⟨d1.ok,d2,d3.ok,d4⟩,fun s hs=> ?_⟩;have h1:=XT.1 e s hs;cases s with
 |fl=>trivial
 |wr i data=>
  unfold Yn at h1;show i<n/\data.length=128;simpa using h1
def mk1(n:Nat):Int×Int×aX:=(Tl n).put (encS ⟨0,0,[]⟩)
def Wc(n:Nat):Int×Int×aX:=(mk1 n).2.2.put (encI 4 [(mk1 n).1])
def stB(n:Nat):aX:=((Wc n).2.2.cM 3 (Wc n).1).2
def MkD(n:Nat):Prop:=
 (∀i,i<8->3<=i->(Tl n).root i=0)/\2<=(Tl n).room/\(mk1 n).2.1=0/\(Wc n).2.1=0/\(0<=(mk1 n).1/\(mk1 n).1<65536)/\(2<=(Wc n).1/\(Wc n).1<(Wc n).2.2.t.len)/\(Wc n).2.2.broken=false
instance (n:Nat):Decidable (MkD n):=by unfold MkD;infer_instance
variable{l xs ys:Fr}{a b i j:Nat}
def qI(xs:Fr)(a i:Nat):Prop:=∀p q,a<=p->p<q->q<i->xs.getD p 0<=xs.getD q 0
def qJ(xs ys:Fr)(a b:Nat):Prop:=ys.length=xs.length/\∀p,p<a\/b<=p->ys.getD p 0=xs.getD p 0
structure Bt(a b:Nat)(xs ys:Fr)(i:Nat):Prop where
 ai:a+1<=i
 ib:i<=b\/i=a+1
 perm:ys.Perm xs
 wo:qJ xs ys a b
 Et:qI ys a i
structure wY(a b i:Nat)(xs ys:Fr)(j:Nat):Prop where
 aj:a<=j
 ji:j<=i
 ib:i<b
 perm:ys.Perm xs
 wo:qJ xs ys a b
 oth:∀p q,a<=p->p<q->q<=i->p≠j->q≠j->ys.getD p 0<=ys.getD q 0
 up:∀q,j<q->q<=i->ys.getD j 0<=ys.getD q 0
def sR(l:Fr)(b i:Nat)(y d:Int)(hb:b<l.length):(l.set b y).getD i d=if i=b then y else l.getD i d:=by
 rw[Qe,Qbl,Qe];by_cases h:i=b
 .subst h;rw[Xo rfl,Xo hb,Xo rfl];rfl
 .rw[Xd (Xm h),Xd h]
def jB(l:Fr)(i j:Nat):List Int:=(l.set i (l.getD j 0)).set j (l.getD i 0)
def Kr(l:Fr)(i j:Nat):(jB l i j).length=l.length:=by unfold jB;simp
def zeh(hi:i<l.length)(hj:j<l.length)(p:Nat):(jB l i j).getD p 0=if p=j then l.getD i 0 else if p=i then l.getD j 0 else l.getD p 0:=by rw[jB,sR _ _ _ _ _ zaU,sR _ _ _ _ _ hi]
def Fx(hi:i<l.length)(hj:j<l.length):(jB l i j).Perm l:=by
 have key:∀(l:Fr) (i j:Nat),i<j->j<l.length->((l.set i (l.getD j 0)).set j (l.getD i 0)).Perm l:=by
  intro l i j wJ hj;have e1:l=l.take i++l.getD i 0::(l.drop (i+1)):=by
   conv=>lhs;rw[<-XW i l]
   rw[Zd Mx,Qe,Qf Mx];rfl
  have⟨A,hA⟩:=eX (l.take i);have⟨x,hx⟩:=eX (l.getD i 0);have⟨R,hR⟩:=eX (l.drop (i+1));have hAl:A.length=i:=by rw[hA,Qu];omega
  have hRl:R.length=l.length - (i+1):=by rw[hR,Zt]
  obtain⟨k,hk⟩:∃k,j=i+1+k:=⟨j - (i+1),Mx⟩;have hkR:k<R.length:=Mx;have e2:R=R.take k++R.getD k 0::R.drop (k+1):=by
   conv=>lhs;rw[<-XW k R]
   rw[Zd hkR,Qe,Qf hkR];rfl
  have hy:l.getD j 0=R.getD k 0:=by rw[hR,Qe,Qe,Zb,hk]
  have⟨y,Zo⟩:=eX (R.getD k 0);rw[<-Zo] at hy e2;have⟨B,hB⟩:=eX (R.take k);have⟨D,hD⟩:=eX (R.drop (k+1));have Nx:B.length=k:=by rw[hB,Qu];omega
  rw[hy,<-hx];rw[<-hA,<-hx,<-hR,e2,<-hB,<-hD] at e1;rw[e1];have s1:(A++x::(B++y::D)).set i y=A++y::(B++y::D):=by rw[ZB _ _ Mx,hAl,XE];rfl
  have s2:(A++y::(B++y::D)).set j x=A++y::(B++x::D):=by rw[ZB _ _ Mx,hAl,hk,show i+1+k - i=k+1 by omega,Qc,ZB _ _ Mx,Nx,XE];rfl
  rw[s1,s2];refine Qgc _ ?_;refine((Qht (a:=x) (l₁:=B) (l₂:=D)).cons y).trans ?_;refine(List.Perm.swap x y _).trans ?_;exact(Qht (a:=y) (l₁:=B) (l₂:=D)).symm.cons x
 obtain h|h|h:=Qbt i j
 .exact key l i j h hj
 .subst h;have:jB l i i=l:=by
   rw[jB,Qel];refine Qaf Sv λk h1 h2=> ?_;rw[List.getElem_set];split
   .rename_i hk
    subst hk;rw[Qe,Qf hi];rfl
   .rfl
  rw[this]
 .have h1:=key l j i h hi;rw[jB,List.set_comm _ _ Mx];exact h1
def PE(h:qJ xs ys a b)(hi:a<=i/\i<b)(hj:a<=j/\j<b)(hil:i<ys.length)(wI:j<ys.length):qJ xs (jB ys i j) a b:=by refine⟨by rw[Kr];exact h.1,λp hp=> ?_⟩;rw[zeh hil wI,Xd Mx,Xd Mx];exact h.2 p hp
def Bt.start(a b:Nat):Bt a b xs xs (a+1):=⟨go,.inr rfl,Qco _,⟨rfl,λ_ _=>rfl⟩,λp q h1 h2 h3=>Mx⟩
def Bt.inner(h:Bt a b xs ys i)(hi:i<b):wY a b i xs ys i:=
 ⟨by have:=h.ai;omega,go,hi,h.perm,h.wo,λp q h1 h2 h3 h4 h5=>h.Et p q h1 h2 Mx,λq h1 h2=>Mx⟩
def wY.stop(h:wY a b i xs ys j)(hs:j=a\/¬ys.getD j 0<ys.getD (j - 1) 0)(hai:a+1<=i):Bt a b xs ys (i+1):=by
 refine⟨Mx,.inl (by have:=h.ib;omega),h.perm,h.wo,λp q h1 h2 h3=> ?_⟩;have h3:q<=i:=Mx;by_cases hp:p=j
 .rw[hp] at h2|-;exact h.up q h2 h3
 .by_cases hq:q=j
  .rw[hq] at h2|-;obtain hs|hs:=hs
   .omega
   .by_cases hp1:p=j - 1
    .rw[hp1];omega
    .have:=h.oth p (j - 1) h1 Mx (by have:=h.ji;omega) hp Mx;omega
  .exact h.oth p q h1 h2 h3 hp hq
def wY.step(h:wY a b i xs ys j)(hj:a<j)(hs:ys.getD j 0<ys.getD (j - 1) 0)(hb:b<=ys.length):wY a b i xs (jB ys j (j - 1)) (j - 1):=by
 have ub:=h.ib;have TB:=h.ji;have g:=λp=>zeh (l:=ys) (i:=j) (j:=j - 1) Mx Mx p;refine⟨Mx,Mx,ub,(Fx Mx Mx).trans h.perm,PE h.wo ⟨Mx,Mx⟩ ⟨Mx,Mx⟩ Mx Mx,λp q h1 h2 h3 h4 h5=> ?_,λq h1 h2=> ?_⟩
 .rw[g,g,Xd h4,Xd h5];by_cases hp:p=j
  .rw[Xo hp,Xd Mx];exact h.oth (j - 1) q Mx Mx h3 Mx Mx
  .rw[Xd hp];by_cases hq:q=j
   .rw[Xo hq];exact h.oth p (j - 1) h1 Mx Mx hp Mx
   .rw[Xd hq];exact h.oth p q h1 h2 h3 hp hq
 .rw[g,g,Xo rfl,Xd Mx];by_cases hq:q=j
  .rw[Xo hq];omega
  .rw[Xd hq];exact h.up q Mx h2
variable{w:Wo}{b0 c g:Nat}
def Cz(w:Wo)(x:Int):
  Calls prog 156 #[gc x] w (iF false λw' =>w=w') :=by
 go_in;go_wp2;go_ret;exact⟨Sv,rfl⟩
def Lt(w:Wo)(x y:Int):
  Calls prog 235 #[gc x,gc y] w (iF (.bool (decide (x<y))) λw' =>w=w') :=by
 have Hx:=aa (Cz w x);have Hy:=aa (Cz w y);go_in;go_wp2_with(first|(go_at_call 156;refine PP Hx.o ?_)|(go_at_call 156;refine PP Hy.o ?_));exact vl
def fX(w:Wo)(b0 g c:Nat)(xs:Fr):Prop:=aB w b0 27 .u32 (.slice (some ⟨g,0,none⟩) xs.length c) xs
def fX.set(h:fX w b0 g c xs)(i:Nat)(x:Int):fX (w.setCell (an g i) (gc x)) b0 g c (xs.set i x):=by unfold fX aB at h|-;rw[Zy,Qem];exact zfV h i _
def fX.cell(h:fX w b0 g c xs){j:Nat}(hj:j<xs.length):jp w g j (gc (xs.getD j 0)):=by obtain⟨b,o,c',hv,-,-,-,hc⟩:=Ns.cells (aB.ns h) (QO (Qp j) hj);injection hv with h1 h2 h3;injection h1 with h1;injection h1 with h1 h2;subst h1 h2;have:=hc j hj;rw[QR] at this;exact this
def zC{b i n:Nat}(hi:i<=b)(hb:b<=n)(hn:n<=100000):wrap64 ((i:Int)+1)=(i:Int)+1/\(0<i->wrap64 ((i:Int) - 1)=((i - 1:Nat):Int)):=vW
def RG(w:Wo)(b0 g c:Nat)(xs:Fr)(h:fX w b0 g c xs)(hl:xs.length<=100000)(a b:Nat)(SQ:a<=b)(hb:b<=xs.length):
  Calls prog 229 #[el g 0 xs.length c,ac a,ac b] w λe w' =>(∃v,e= .returned v)/\∃ys,fX w' b0 g c ys/\ys.Perm xs/\qJ xs ys a b/\qI ys a b/\aG (λx=>x=g) w w' :=by
 have H0:=kH h hl SQ hb;have nZ:=aa (zC SQ hb hl).1;have am4:=nZ.o;have⟨N,hN⟩:=eX xs.length;have HN:=aa hN;rw[<-hN];clear h hl SQ hb hN;go_in;go_wp2;clear am4;go_loopw [6] (λiv wr=>∃(i:Nat) (ys:Fr),iv= ac i/\Af (Bt a b xs ys i/\fX wr b0 g c ys/\aG (λx=>x=g) w wr)) (λiv _=>b - (intOf iv).toNat)
 .exact⟨a+1,xs,by rw[nZ.o];rfl,Bt.start a b,H0.p1,aG.refl _ _⟩
 .obtain⟨i,ys,rfl,HR⟩:=hrel;by_cases hi:i<b
  .have hlen:=HR.p1.wo.1;have HX:=kH hi (by rw[HN.o];exact H0.q3:b<=N) (by rw[HN.o];exact H0.p2:N<=100000) HR.p1.ai;have HJ0:Af (wY a b i xs ys i/\fX wr b0 g c ys/\aG (λx=>x=g) w wr):=⟨HR.p1.inner hi,HR.q1⟩;have ub:(i:Int)<b:=(by omega);have Hw:=aa (zC (QX hi) HX.p2 HX.p3).1;clear hi hlen HR;go_wp2;go_loopw [7] (λjv W=>∃(j:Nat) (zs:Fr),jv= ac j/\Af (wY a b i xs zs j/\fX W b0 g c zs/\aG (λx=>x=g) w W)) (λjv _=>(intOf jv).toNat)
   .exact⟨i,ys,rfl,HJ0.o⟩
   .obtain⟨j,zs,rfl,HS⟩:=hrel;have JC:=HS.p1.wo.1.trans HN.o.symm;by_cases hj:a<j
    .have tC:j<zs.length:=(by have:=HS.p1.ji;have:=HX.p1;have:=HX.p2;omega);have z0:=HS.p2.cell tC;have z1:=HS.p2.cell (j:=j - 1) Mx;have hwj:=(zC (i:=j) (QX (QO HS.p1.ji HX.p1)) HX.p2 HX.p3).2 Mx;have⟨x,hx⟩:=eX (zs.getD j 0);have⟨y,hy⟩:=eX (zs.getD (j - 1) 0);rw[<-hx] at z0;rw[<-hy] at z1;have HLs:Af (∀q,Calls prog 235 #[gc x,gc y] (wr.drewN q) (iF (.bool (decide (x<y))) λw' =>∃m,w' =wr.drewN m)):=λq=>Qec ((Lt (wr.drewN q) x y).mono λe w' h=>⟨h.1,h.2.symm⟩);have dja:decide ((a:Int)<(j:Int))=true:=BY;have i0:=Xh j;have iN:(j:Int)<N:=Mx;have k0:(0:Int)<=((j - 1:Nat):Int):=Xh _;have kN:((j - 1:Nat):Int)<N:=Mx;have hja:(a:Int)<j:=Mx;have⟨J,hJ⟩:=eX (j - 1);rw[<-hJ] at hwj z1 k0 kN;have HZ:Af (zs.length=N/\a<j/\x=zs.getD j 0/\y=zs.getD (j - 1) 0/\J=j - 1/\j<N):=⟨JC,hj,hx,hy,hJ,JC▸tC⟩;clear JC hj hx hy tC hJ;go_upto_region 4 with fail;go_quiet ((go_at_call 235;with_reducible exact HLs.o _));have⟨W,hW⟩:=eX (wr.drewN nq);have bw:ci wr W:=hW▸(below_drewN pi _);rw[<-hW];have j2:Af (wY a b i xs zs j/\fX W b0 g c zs/\aG (λx=>x=g) w W):=⟨HS.p1,aB.on HS.p2 bw,HS.q2.trans (aG.aZ bw)⟩;clear hW bw z0 z1 HS dja HLs;have⟨R,hR⟩:=eX (decide (x<y));rw[<-hR];cases R with
     |true=>
      have z0:=j2.p2.cell (j:=j) (HZ.p1▸HZ.q5);have z1:=j2.p2.cell (j:=J) (by rw[HZ.p1,HZ.p5];exact QO (Qfm _ _) HZ.q5);rw[<-HZ.p3] at z0;rw[HZ.p5,<-HZ.p4,<-HZ.p5] at z1;go_upto_region 6 with fail;have f0:=jN j2.p2 j;have f1:=jN j2.p2 J;have hwk:IntKind.i64.wrap ((j:Int) - 1)=(J:Int):=(by have h1:=HZ.p5;have h2:=HZ.p2;have h3:=HX.p3;have h4:=HZ.q5;simp only[IntKind.wrap,IntKind.bits,IntKind.signed];simp;omega);have o2:=j2.p2.set j y;have z2:jp (rc W g j (gc y)) g J (gc ((zs.set j y).getD J 0)):=o2.cell (by rw[Zy,HZ.p1,HZ.p5];exact QO (Qfm _ _) HZ.q5);have f2:=jN o2 J;clear o2;have HR:=aa hR;clear hR;have Hwj:=aa hwj;go_region_law fail;all_goals
       have o3:fX ((rc (rc W g j (gc y)) g J (gc x)).drew) b0 g c (jB zs j J):=(by have o:=(j2.p2.set j y).set J x;have e:(zs.set j y).set J x=jB zs j J:=(by rw[jB,<-HZ.p3,HZ.p5,<-HZ.p4]);rw[e] at o;exact aB.on o (below_drewN pi 1));have c3:aG (λx=>x=g) w ((rc (rc W g j (gc y)) g J (gc x)).drew):=((j2.q2.setCell (p:=an g j) (λ_=>rfl) _).setCell (p:=an g J) (λ_=>rfl) _).trans (aG.aZ (below_drewN pi 1));have i3:wY a b i xs (jB zs j J) J:=(by have aJ:zs.getD j 0<zs.getD (j - 1) 0:=(by rw[<-HZ.p3,<-HZ.p4];exact XQ HR.o.symm);rw[HZ.p5];exact j2.p1.step HZ.p2 aJ (HZ.p1▸HX.p2));have H3:=aa (And.intro i3 (And.intro o3 c3));have hJj:J<j:=HZ.p5▸(Nat.sub_lt (QO (Qp a) HZ.p2) (XL 0));have HJj:=aa hJj;clear o3 c3 i3 z0 z1 z2 f0 f1 f2 hwk i0 iN k0 kN hja hJj;have⟨W3,cD⟩:=eX ((rc (rc W g j (gc y)) g J (gc x)).drew);rw[<-cD] at H3|-;clear cD;go_wp2;exact⟨⟨J,jB zs j J,by first|trivial|rfl|(rw[Hwj.o]),H3.o⟩,by first|simpa[intOf] using HJj.o|(rw[Hwj.o];simpa[intOf] using HJj.o)⟩
     |false=>
      have cO:Bt a b xs zs (i+1):=j2.p1.stop (.inr (by rw[<-HZ.p3,<-HZ.p4];exact Qbo hR.symm)) HX.q3;have H3:=aa (And.intro cO j2.q1);have hw:=Hw.o;clear cO hR i0 iN k0 kN hja j2;go_wp2;exact⟨⟨i+1,zs,zaf,H3.o⟩,In⟩
    .have hja:=QE (QC hj) HS.p1.aj;have dja:decide ((a:Int)<(j:Int))=false:=(by simp;omega);have cO:=HS.p1.stop (.inl hja) HX.q3;have H3:=aa (And.intro cO HS.q1);have tC:¬(a:Int)<j:=Mx;clear cO hja HS hj JC;go_upto_region 4 with fail;go_quiet (fail);have⟨W,hW⟩:=eX (wr.drewN nq);have bw:ci wr W:=hW▸(below_drewN pi _);rw[<-hW];have H4:=iJ H3.p1 (aB.on H3.p2 bw) (H3.q2.trans (aG.aZ bw));have hw:=Hw.o;clear hW bw H3 dja tC;go_wp2;exact⟨⟨i+1,zs,zaf,H4.o⟩,In⟩
  .have ub:¬(i:Int)<b:=(by omega);have tt:qI ys a b:=λp q h1 h2 h3=>HR.p1.Et p q h1 h2 Mx;have H4:=Ba HR.p2 HR.p1.perm HR.p1.wo tt HR.q2;clear tt HR hi;go_wp2;go_end0;exact⟨⟨_,rfl⟩,ys,H4.o⟩
def CG(w:Wo):
  Calls prog 229 #[(),ac 0,ac 0] w λe w' =>(∃v,e= .returned v)/\w=w' :=by
 go_in;go_wp2;go_loopw [6] (λiv wr=>iv= ac 1/\wr=w) (λ_ _=>0)
 .exact⟨rfl,rfl⟩
 .obtain⟨rfl,rfl⟩:=hrel;go_wp2;go_end0;exact⟨⟨_,rfl⟩,rfl⟩
def F7(w:Wo)(v:Va)(n:Nat)(hn:n<=12)(k:Int)(R:Wo->Prop)(h:Calls prog 229 #[v,ac 0,ac n] w λe w' =>(∃v,e= .returned v)/\R w'):
  Calls prog 217 #[v,ac 0,ac n,ac k] w (iF (.tuple #[]) λw' =>R w') :=by
 have H:=aa h;have hw:IntKind.i64.wrap ((n:Int) - 0)=(n:Int):=zbS;have fp:wrap64 ((n:Int) - 0)=(n:Int):=vW;have DZ:wrap64 (n:Int)=(n:Int):=vW;have yW:(n:Int)<=12:=Mx;clear h hn;go_in;go_wp2;go_loopw [1,2,8] (λav bv cv wr=>av= ac 0/\bv= ac n/\cv= .bool true/\wr=w) (λ_ _ _ _=>0)
 .exact⟨rfl,rfl,rfl,rfl⟩
 .obtain⟨rfl,rfl,rfl,rfl⟩:=hrel;go_wp2_with(go_at_call 229;refine H.o.mono ?_;rintro e W2 ⟨⟨v,rfl⟩,q2⟩;have Q2:=aa q2;clear q2);try rw[Qv]
  refine Qar (results_none rfl _ _ _) rfl ?_;exact⟨rfl,Q2.o⟩
def nO(w:Wo)(v:Va)(n:Nat)(hn:n<=12)(hv:∃A c,v= am A n c)(R:Wo->Prop)(h:Calls prog 229 #[v,ac 0,ac n] w λe w' =>(∃v,e= .returned v)/\R w'):
  Calls prog 183 #[v] w (iF (.tuple #[]) λw' =>R w') :=by
 obtain⟨A,c,rfl⟩:=hv;have HP:=aa (F7 w (am A n c) n hn (Lib.bitLen n:Nat) R h);have HL:Af (Calls prog 66 #[ip n] w (iF (ac (Lib.bitLen n:Nat)) λw' =>w=w')):=(Tryz.bits_Len n w (Xh _) Mx).mono λe w' h=>by rw[Xt] at h;exact⟨h.1,h.2.symm⟩
 have hu:IntKind.u64.wrap (n:Int)=(n:Int):=YR;clear h hn;go_in;go_wp2_with(first|(go_at_call 66;refine PP HL.o ?_)|(go_at_call 217;refine Pe HP.o λW2 Q2=> ?_));go_end0;exact⟨rfl,Q2.o⟩
variable{W W' :Wo}{cb:Nat}{c4:Ox}{ov sv:Va}{ps:List (ay × Va)}
def LA:(prog.info? 27).map (λi=>(i.zero,i.size,i.bytes))=some (some (gc 0),1,4):=KJ
@[reducible] def NKu:NK .u32:=⟨204,27,4,underlying204,LA,Fd⟩
def gu(p:Int)(es:List aD):List Int:=(es.filter λe=>e.print==p).map (·.block)
def KW(p:Int)(a b:List aD):gu p (a++b)=gu p a++gu p b:=by unfold gu;rw[Qbh,QL]
def uO(l:List ay):List aD:=l.flatMap (·.es)
structure uG(w:Wo)(cb:Nat)(c4:Ox)(sv:Va)(ps:List (ay×Va))(ov:Va)(xs:Fr)(W:Wo):Prop where
 box:aq W cb 72 c4
 so:gj W w sv ps
 own:aB W w 27 .u32 ov xs
 low:Below w w W
def uG.on(h:uG w cb c4 sv ps ov xs W)(hb:ci W W'):uG w cb c4 sv ps ov xs W' :=
 ⟨h.box.on hb,h.so.on hb,aB.on h.own hb,Pd h.low hb⟩
def yA{base g sz n:Nat}{t e:Fy}{cs:Ox}{v:Va}{xs:Ox}(h:aq W g t cs)(JG:t≠e)(ho:W.ownsRow base e sz v n xs)(hg:W.grownBy W' v.ownBlock):aq W' g t cs:=by have bT:=h.not_row JG ho;exact h.aL (aG.dH (S:=λb=>v.ownBlock=some b) hg (λx _ e=>e)) (λe=>bT e)
def uG.grown{ov' :Va}{VY :Fr}(h:uG w cb c4 sv ps ov xs W)(h2:aB W' w 27 .u32 ov' VY)(h3:W.grownBy W' ov.ownBlock):uG w cb c4 sv ps ov' VY W' :=
 ⟨yA h.box Fd h.own h3,h.so.kept h.own Fd Fd h3,h2,h.low.grown h3 h.low.size (λj e=>(pG h.own e).1)⟩
def Re(p:Int)(es:List aD):(gu p es).length<=es.length:=by rw[gu,Qq];exact Qby _ _
def Rc(p:Int)(e:aD):gu p [e]=if e.print=p then[e.block] else[]:=by
 rw[gu,Qdv];by_cases h:e.print=p
 .rw[Xo EQ,Xo h];rfl
 .rw[Xd EQ,Xd h];rfl
def kM(p:Int)(l:List ay)(k j:Nat):List Int:=gu p (uO (l.take k)++((l.drop k).headD ⟨0,0,[]⟩).es.take j)
def xM(p:Int)(l:List ay)(k:Nat):kM p l k 0=gu p (uO (l.take k)):=by rw[kM,Zq,Zi]
def vR(l:List ay)(k:Nat)(s:ay)(h:l[k]? =some s):(l.drop k).headD ⟨0,0,[]⟩=s:=by rw[List.headD_eq_head?_getD,List.head?_drop,h];rfl
def Kp(p:Int)(l:List ay)(k j:Nat)(s:ay)(e:aD)(hs:l[k]? =some s)(he:s.es[j]? =some e):kM p l k (j+1)=if e.print=p then kM p l k j++[e.block] else kM p l k j:=by
 unfold kM;rw[vR l k s hs,aA s.es j e he,<-QY,KW _ _ [e],Rc];split
 .rfl
 .rw[Zi]
def Kq(p:Int)(l:List ay)(k:Nat)(s:ay)(hs:l[k]? =some s):kM p l k s.es.length=kM p l (k+1) 0:=by rw[xM];unfold kM uO;rw[vR l k s hs,XU,aA l k s hs,QP,Qan]
def PD(p:Int)(l:List ay)(k:Nat)(h:l.length<=k):kM p l k 0=gu p (uO l):=by rw[xM,Qj h]
def PC(p:Int)(l:List ay)(k j:Nat)(h:∀s∈l,s.es.length<=9)(hl:l.length<=4096)(hk:k<=l.length):(kM p l k j).length<=50000:=by
 refine Qh (Re _ _) ?_;have h1:∀m:List ay,(∀s∈m,s.es.length<=9)->(uO m).length<=9*m.length:=by
  intro m;induction m with
  |nil=>intro _;exact go
  |cons a r ih=>
   intro hm;have:=ih λs hs=>hm s (Qs _ hs);have h2:=hm a (Qm ..);unfold uO at this|-;rw[QH,Qo,QF];omega
 have h2:=h1 (l.take k) λs hs=>h s (Za hs);have h3:((l.drop k).headD ⟨0,0,[]⟩).es.length<=9:=by
  cases hd:l.drop k with
  |nil=>exact lm
  |cons a r=>exact h a (Q6 (hd▸(Qm ..)))
 rw[Qo,Qu];rw[Qu] at h2;omega
def LR(w:Wo)(I:bF)(s:aX)(h:cR w I s)(dep:Nat)(ae:List (Nat×Int))(at_:Fr)(cs:List ak)(hk:CK s dep ae at_ cs)(p:Int)(hp:bI p)(R:List Int->List Int->Prop)(c:ak)(kJ:Bf cs (p/2^56).toNat=some c)
  (ET:∀(W:Wo) (v:Va),aB W w 27 .u32 v (gu p c.all)->ci w W->Calls prog 183 #[v] W λe W' =>e= .returned (.tuple #[])/\∃ys,aB W' w 27 .u32 v ys/\R (gu p c.all) ys/\ci w W'):
  Calls prog 114 #[I.b,ip p] w λr w' =>∃v ys,r= .returned (.tuple #[v,ac 0])/\aB w' w 27 .u32 v ys/\R (gu p c.all) ys/\ci w w' :=by
 obtain⟨j0,c0,hj,hit,ej⟩:=sX w I s h dep ae at_ cs hk.ok p hp;have oS:=Qi hj;have abh:=hk.ok.aaP.find oS hit;rw[kJ] at abh;obtain rfl:=Qr abh;have uo:=aa ej;have ahe:=aa ET;have hG:=hk.ch c oS;have HC:Af ((∀s∈c.ah,s.es.length<=9)/\c.ah.length<=4096):=⟨λs hs=>(fZ (hG.ok.right s hs)).1,by rw[<-hG.ok.len];exact Qh (fL cs c oS) hk.ok.many⟩;have bm:c.all=uO c.ah:=rfl;rw[bm] at ahe|-;clear h hk hp hj hit ej oS kJ abh ET hG bm;go_in;go_upto_region 2 with(go_at_call 24;refine uo.o.mono ?_;rintro e W2 ⟨bv,sv,ps,rfl,bo,so,fc,b2⟩;obtain⟨Ab,nb,cb,rfl⟩:=bo.bu;obtain⟨As,ns,ks,rfl⟩:=so.form;obtain⟨SO,EI,B2⟩:=qC so fc b2;clear bo so fc b2);have b3:=aF W2 (.cells #[ac c.ax,ac c.depth,am Ab nb cb,am As ns ks] 72);have X3:=ar W2 [ac c.ax,ac c.depth,am Ab nb cb,am As ns ks] 72;have⟨W3,cD⟩:=eX (W2.alloc (.cells #[ac c.ax,ac c.depth,am Ab nb cb,am As ns ks] 72));obtain⟨xb,eD⟩:∃y,y=W2.heap.size:=⟨_,rfl⟩;rw[<-cD] at b3|-;have X3:aq W3 xb 72 [ac c.ax,ac c.depth,am Ab nb cb,am As ns ks]:=by rw[cD,eD];exact X3
 rw[<-eD];have HXb:Af (w.heap.size<=xb):=by show _<=_;rw[eD];exact B2.o.size
 have rj:Af (uG w xb [ac c.ax,ac c.depth,am Ab nb cb,am As ns ks] (am As ns ks) ps () (kM p c.ah 0 0) W3):=⟨X3,SO.o.on b3,cQ _ _ _ _,Pd B2.o b3⟩;have pT:ns=ps.length:=by obtain⟨A',c',e'⟩:=SO.o.Wa.form;injection e'
 have MT:Af (ns=ps.length/\ps.length=c.ah.length/\ns<=4096):=by
  have h1:ps.length=c.ah.length:=by rw[<-EI.o,Qq]
  exact⟨pT,h1,by rw[pT,h1];exact HC.q1⟩
 have x3:=X3.j3;clear cD eD b3 X3 pT uo;go_wp2_with fail;clear x3;go_loopw [8,22] (λov iv wr=>∃k:Nat,iv= ac k/\Af (k<=ns/\uG w xb [ac c.ax,ac c.depth,am Ab nb cb,am As ns ks] (am As ns ks) ps ov (kM p c.ah k 0) wr)) (λ_ iv _=>ns - (intOf iv).toNat)
 .exact zfB
 .obtain⟨k,rfl,HR⟩:=hrel;obtain⟨Ao,no,co,rfl⟩:=HR.q1.own.bu;by_cases hk:k<ns
  .obtain⟨q,hq⟩:∃q,ps[k]? =some q:=⟨_,Qf (by rw[<-MT.p1];exact hk)⟩;have hS:=HR.q1.so.Wa;obtain⟨b,o,c',hv,hb,z0,z1,z2⟩:=hS.cells hq;obtain rfl:As=some (an b o):=No;have eE:=HR.q1.so.es q (Qi hq);obtain⟨Ae,ce,hU⟩:=eE.1.form;have⟨L,hL⟩:=eX q.1.es.length;rw[<-hL] at hU;rw[hU] at z2;have JH:c.ah[k]? =some q.1:=(by rw[<-EI.o,Qt,hq];rfl);have⟨d,hd⟩:=eX q.1.depth;have⟨nx,fu⟩:=eX q.1.next;rw[<-hd] at z0;rw[<-fu] at z1;obtain⟨W4,j7,Y4,b4⟩:=nW wr [io d,gc nx,am Ae L ce] 79;have⟨rb,ft⟩:=eX wr.heap.size;rw[<-ft] at Y4;have WR:=dK (HR.q1.on b4) Y4;have t2:=Y4.j2;have Hq:=Nv JH (Qi hq) hU hL (by rw[hL];exact HC.p1 q.1 (Qi JH):L<=9) hk;obtain⟨u1,u2,u3⟩:=bR hk MT.q2 Fd;have Hu1:=aa u1;have Bh:=dK j7.symm ft.symm;clear hb hS eE hU hL hq hd fu hk hv JH HR b4 Y4 u1 ft j7;go_upto_region 6 with fail;rw[Bh.p1,Bh.q1];clear z0 z1 z2 Bh;go_wp2_with fail;clear t2;go_loopw [8,29] (λov jv wr=>∃j:Nat,jv= ac j/\Af (j<=L/\uG w xb [ac c.ax,ac c.depth,am Ab nb cb,el b o ns ks] (el b o ns ks) ps ov (kM p c.ah k j) wr/\aq wr rb 79 [io d,gc nx,am Ae L ce])) (λ_ jv _=>L - (intOf jv).toNat)
   .exact⟨0,rfl,lm,WR.o⟩
   .obtain⟨j,rfl,HI⟩:=hrel;obtain⟨Ao,no,co,rfl⟩:=HI.p2.own.bu;by_cases hj:j<L
    .have Iw:=(HI.p2.so.Wa.es q Hq.p2).1;rw[Hq.p3] at Iw;have Ef:j<q.1.es.length:=(by rw[<-Hq.p4];exact hj);obtain⟨be,oe,ce',hU,-,-,mG,Wz⟩:=Iw.cells (QO lm Ef);obtain rfl:Ae=some (an be oe):=(by injection hU);obtain⟨q0,q1⟩:=Wz j Ef;have⟨x,hx⟩:=eX (q.1.es[j]);rw[<-hx] at q0 q1;have pf:q.1.es[j]? =some x:=(by rw[hx];exact Qf Ef);have hup:=Kp p c.ah k j q.1 x Hq.p1 pf;have hul:=PC p c.ah k j HC.p1 HC.q1 (by rw[<-MT.p2,<-MT.p1];exact QX Hq.q5);have⟨pr,gY⟩:=eX x.print;have⟨bk,ej⟩:=eX x.block;rw[<-gY] at q0;rw[<-ej] at q1;rw[<-gY,<-ej] at hup;obtain⟨W5,j6,Y5,b5⟩:=nW wr [ip pr,gc bk] 29;have⟨eb,mR⟩:=eX wr.heap.size;rw[<-mR] at Y5;obtain⟨v0,v1⟩:=gh Y5;have zb:=dK j6.symm mR.symm;have HI5:=iJ (HI.p2.on b5) (HI.q2.on b5) hul;obtain⟨u1,u4,u5⟩:=bR hj Hq.p5 Fd;clear Iw Ef hU mG Wz hx pf hul gY ej b5 Y5 mR j6 HI;change Af _ at hup hj u1;go_upto_region 9 with fail;rw[zb.p1,zb.q1];clear q0 q1 zb;by_cases hpp:pr=p
     .have abx:Af (kM p c.ah k (j+1)=kM p c.ah k j++[bk]):=(by show _=_;rw[hup.o,Xo hpp]);subst hpp;go_upto_region 10 with fail;have b6:=aF W5 (.cells #[gc bk] 27);have X6:=aa (ar W5 [gc bk] 27);have H6:=dK (HI5.p1.on b6) (HI5.p2.on b6);obtain⟨O6,S6,L6⟩:=qC H6.p1.own H6.p1.low.size (Qh HI5.q2 (show 50000<=100000 by decide));clear b6;go_wp2_with(at_builtin;(with_reducible refine wl_app1 NKu (os:= .tmp 37) (ox:= .tmp 40) w _ _ O6.o W5 bk X6.o ?_ ?_ ?_ ?_ ?_);(·exact L6.o);(·exact S6.o);(·rfl);(·rfl);intro v7 W7 o7 g7;obtain⟨A7,n7,c7,rfl⟩:=o7.bu;have O7:=aa (And.intro o7 g7);clear o7 g7);have HN:uG w xb [ac c.ax,ac c.depth,am Ab nb cb,el b o ns ks] (el b o ns ks) ps (am A7 n7 c7) (kM pr c.ah k (j+1)) W7/\aq W7 rb 79 [io d,gc nx,el be oe L ce]:=(by rw[abx.o];exact⟨H6.p1.grown O7.p1 O7.q1,yA H6.q1 Fd O6.o O7.q1⟩);exact⟨⟨j+1,Nm,hj.o,HN⟩,zcb⟩
     .have abx:Af (kM p c.ah k (j+1)=kM p c.ah k j):=(by show _=_;rw[hup.o,Xd hpp]);have xy:=Xc hpp;have HN:=dK (by rw[abx.o];exact HI5.p1:uG w xb [ac c.ax,ac c.depth,am Ab nb cb,el b o ns ks] (el b o ns ks) ps (am Ao no co) (kM p c.ah k (j+1)) W5) HI5.p2;clear hpp;go_wp2_with fail;exact⟨⟨j+1,Nm,hj.o,HN.o⟩,zcb⟩
    .have TC:=QE HI.p1 (QC hj);have cO:=HI.p2;rw[TC,Hq.p4,Kq p c.ah k q.1 Hq.p1] at cO;have Te:=aa cO;have bj:=aa Hq.q5;subst TC;clear HI hj cO;go_wp2_with fail;exact⟨⟨k+1,by first|rfl|(rw[Hu1.o];rfl),bj.o,Te.o⟩,zbP⟩
  .have cH:=QE HR.p1 (QC hk);have cO:=HR.q1;rw[cH,PD p c.ah ns (by rw[MT.p1,MT.p2];exact go)] at cO;have hs:=ahe.o wr (am Ao no co) cO.own cO.low;have HS:=aa hs;subst cH;clear HR hk cO hs;go_wp2_with(go_at_call 183;refine HS.o.mono ?_;rintro e W6 ⟨rfl,ys,o6,r6,b6⟩;have O6:=aa (And.intro o6 (And.intro r6 b6));clear o6 r6 b6);go_ret2;exact⟨_,ys,rfl,O6.o⟩

def OT(xs ys:Fr):Prop:=ys.Perm xs/\qI ys 0 ys.length
def abM(base:Nat)(W:Wo)(v:Va)(xs:Fr)(h:aB W base 27 .u32 v xs)(hl:xs.length<=12):
  Calls prog 183 #[v] W λe W' =>e= .returned (.tuple #[])/\∃ys,aB W' base 27 .u32 v ys/\OT xs ys/\Below base W W' :=by
 rcases h.2 with⟨rfl,h0⟩|⟨g,cap,cur,rfl,hg,-⟩
 .have hx:=List.length_eq_zero_iff.1 h0;subst hx;refine nO W () 0 Fd ⟨_,_,rfl⟩ _ ((CG W).mono ?_);rintro e W' ⟨h1,rfl⟩;exact⟨h1,[],h,⟨Qco _,λp q h1 h2 h3=>by simp at h3⟩,pi⟩
 .refine nO W _ xs.length hl ⟨_,_,rfl⟩ _ ((RG W base g cap xs h Mx 0 xs.length lm go).mono ?_);rintro e W' ⟨h1,ys,h2,h3,h4,h5,h6⟩;have hlen:=h4.1;refine⟨h1,ys,by unfold fX at h2;rw[hlen] at h2;exact h2,⟨h3,hlen▸h5⟩,h6.below (Qh hg (QX (pG h rfl).2)) λx hx e=>absurd hg (Nat.not_le.2 (e▸hx))⟩
def Dz(w:Wo)(I:bF)(s:aX)(h:cR w I s)(hb:s.broken=false)(h0:¬s.root 3=0):
  Calls prog 16 #[I.b] w (iF (ac 180) λw' =>ci w w') :=by
 have HM:=aa (la w I s h hb);have tI:=ot w I s h 3 Fd;have⟨r,hr⟩:=eX (s.root 3);rw[<-hr] at tI h0;have HR:=aa tI;have ft:=Xc h0;clear h hb tI hr;go_in;go_wp2_with(first
  |(go_at_call 23;refine PP HM.o ?_)
  |(go_at_call 55;refine PP HR.o ?_))
 try rw[Qv]
 go_ret;exact⟨rfl,pi⟩
def Lk(w:Wo):Calls prog 9 #[] w (iF (ac 15) λw' =>w=w') :=by have h1:=dY w 256 Fd Fd;rw[show aR 256=5 by decide] at h1;have H:=aa h1;clear h1;go_in;go_wp2_with(go_at_call 30;refine PP H.o ?_);exact vl
def CN(w:Wo)(d pl n:Nat)(hm:UW n)(h:cF w d pl (replicate n iy)):
  Calls prog 14 #[d] w (iF (ac 0) λw' =>cF w' d pl (Ei n)/\aG (DS d pl) w w') :=by
 have hf:=Gw w d pl _ h (QK▸hm);rw[QK] at hf;exact hf
def Ct(w:Wo)(d pl n:Nat)(h:cF w d pl (Ei n))(hs:WM n):
  Calls prog 15 #[d] w λe w' =>∃I,e= .returned (.tuple #[I.b,ac 0])/\cR w' I (Tl n)/\abu w d pl I/\ci w w' :=
 Ld w d pl (Ei n) h _ _ _ _ hs.opn
def tri{α β γ:Type}{x:α×β×γ}{b:β}(h:x.2.1=b):x=(x.1,b,x.2.2):=by rw[<-h]
def CD(w:Wo)(I:bF)(n:Nat)(h:cR w I (Tl n))(hm:MkD n):
  Calls prog 16 #[I.b] w (iF (ac 0) λw' =>cR w' I (stB n)/\aG (BS I) w w') :=by
 obtain⟨m1,m2,m3,m4,m5,m6,m7⟩:=hm;have e1:=tri m3;have e2:=tri m4;have hb:(Tl n).broken=false:=by unfold Tl EP;rfl
 have h0:=m1 3 Fd Fd;unfold stB;unfold Wc at e2 m6 m7|-;generalize hx:mk1 n=x at*;generalize hy:x.2.2.put (encI 4 [x.1])=y at*;exact Lq w I (Tl n) h hb h0 m2 x.1 y.1 x.2.2 y.2.2 (hx.trans e1) (hy.trans e2) m5 m6 m7
def Jh{w:Wo}{d pl:Nat}{I:bF}(h:abu w d pl I){B:Nat}(hB:B<=w)(hd:B<=d)(hp:B<=pl):∀x,BS I x->B<=x:=by obtain⟨h1,h2,h3,h4,h5,h6,h7,h8⟩:=h;intro x hx;obtain e|e|e|e|e|e|e|e:=hx<;>omega
def begun_gen(w:Wo)(n:Nat)(h0:16<=n)(h1:n<=4096){s0 sB:aX}(hF:UW n)(hO:∀W d pl,cF W d pl (Ei n)->Calls prog 15 #[d] W λe w' =>∃I,e= .returned (.tuple #[I.b,ac 0])/\cR w' I s0/\abu W d pl I/\ci W w')
  (hM:∀W I,cR W I s0->Calls prog 16 #[I.b] W (iF (ac 0) λw' =>cR w' I sB/\aG (BS I) W w')):
  Calls prog 4 #[ac n] w λe w' =>∃I,e= .returned (.tuple #[I.b,.bool true])/\cR w' I sB/\(∀x,BS I x->w.heap.size<=x)/\ci w w' :=by
 have HN:=aa (Cx w n h0 h1);have HF0:=aa (λW d pl (h:cF W d pl (replicate n iy))=>CN W d pl n hF h);clear h0 h1 hF;change Af _ at hO hM;go_in;go_upto_region 2 with(go_at_call 13;refine HN.o.mono ?_;rintro e W1 ⟨d,pl,rfl,d1,hd,hp,b1⟩;have D1:=aa (And.intro d1 (And.intro hd (And.intro hp b1)));clear d1 hd hp b1);have HF:=aa (HF0.o W1 d pl D1.p1);clear HN;go_upto_region 4 with(go_at_call 14;refine HF.o.mono ?_;rintro e W2 ⟨rfl,d2,c2⟩;have D2:=aa (And.intro d2 c2);clear d2 c2);have HO:=aa (hO.o W2 d pl D2.p1);clear HF;go_upto_region 5 with(go_at_call 15;refine HO.o.mono ?_;rintro e W3 ⟨I,rfl,h3,n3,b3⟩;have H3:=aa (And.intro h3 (And.intro n3 b3));clear h3 n3 b3);have HM:=aa (hM.o W3 I H3.p1);clear HO;go_wp2_with(go_at_call 16;refine HM.o.mono ?_;rintro e W4 ⟨rfl,h4,c4⟩;have H4:=aa (And.intro h4 c4);clear h4 c4);try rw[Qv]
 go_ret2;have NB:=D2.q1.below D1.q3.size (λx hx e=>by obtain e|e:=e<;>(rw[e] at hx;have:=D1.p2;have:=D1.p3;omega));have zj:=Jh H3.p2 (B:=w.heap.size) (Qh D1.q3.size NB.size) D1.p2 D1.p3;have EF:=(D1.q3.trans NB).trans (H3.q2.mono (Qh D1.q3.size NB.size));have WK:=H4.q1.below EF.size (λx hx e=>absurd (zj x e) (Nat.not_le.2 hx));exact⟨I,rfl,H4.p1,zj,EF.trans WK⟩
def yT(w:Wo)(n:Nat)(h0:16<=n)(h1:n<=4096)(hs:Yf n/\WM n/\MkD n):
  Calls prog 4 #[ac n] w λe w' =>∃I,e= .returned (.tuple #[I.b,.bool true])/\cR w' I (stB n)/\(∀x,BS I x->w<=x)/\ci w w' :=
 begun_gen w n h0 h1 hs.1.ok (λW d pl h=>Ct W d pl n h hs.2.1) (λW I h=>CD W I n h hs.2.2)
def KE(w:Wo)(va vb:Va)(xs:Fr)(ha:Ns w w .u32 va xs)(hb:Ns w w .u32 vb xs)(hl:xs.length<=1000):
  Calls prog 115 #[va,vb] w (iF true λw' =>ci w w') :=by
 obtain⟨Aa,ca,rfl,-,-⟩:=ha.form;obtain⟨Ab,cb,rfl,-,-⟩:=hb.form;have⟨n,hn⟩:=eX xs.length;have HA:=kH (by rw[hn];exact ha:Ns w w .u32 (am Aa n ca) xs) (by rw[hn];exact hb:Ns w w .u32 (am Ab n cb) xs) hn (by omega:n<=1000);rw[<-hn];clear ha hb hl hn;go_in;go_wp2_with fail;go_loopw [13] (λiv wr=>∃k:Nat,iv= ac k/\Af (k<=n/\ci w wr)) (λiv _=>n - (intOf iv).toNat)
 .exact⟨0,rfl,lm,pi⟩
 .obtain⟨k,rfl,HR⟩:=hrel;by_cases hk:k<n
  .have si:k<xs.length:=(by rw[<-HA.p3];exact hk);obtain⟨b1,o1,c1,hv1,-,-,ME,jb⟩:=HA.p1.cells (QO lm si);obtain⟨b2,o2,c2,AO,-,-,rf,pk⟩:=HA.p2.cells (QO lm si);obtain rfl:Aa=some (an b1 o1):=(by injection hv1);obtain rfl:Ab=some (an b2 o2):=(by injection AO);have⟨x,hx⟩:=eX (xs.getD k 0);have z1:=jb k si;have z2:=pk k si;rw[<-hx] at z1 z2;have y1:=(HR.q1.cell (p:=an b1 (o1+k)) ME).trans z1;have y2:=(HR.q1.cell (p:=an b2 (o2+k)) rf).trans z2;have k0:=Xh k;have kn:(k:Int)<n:=Mx;have HL:=aa HR.q1;obtain⟨u1,u2,u3⟩:=bR hk HA.q3 Fd;clear hv1 AO ME rf jb pk z1 z2 hx si HR;change Af _ at hk u1;go_upto_region 6 with fail;go_quiet (fail);have⟨W,hW⟩:=eX (wr.drewN nq);have bw:ci wr W:=hW▸(below_drewN pi _);rw[<-hW];have HL2:=aa (Pd HL.o bw);clear hW bw y1 y2;go_wp2;exact⟨⟨k+1,Nm,hk.o,HL2.o⟩,by first|exact al hk.o|(rw[u1.o];exact al hk.o)⟩
  .have cH:=QE HR.p1 (QC hk);subst cH;have HL:=aa HR.q1;clear HR hk;go_wp2;(try rw[Qv]);go_ret;exact⟨rfl,HL.o⟩
def Kx{l:Fr}(h:qI l 0 l.length):l.Pairwise (·<=·):=by rw[Qio];intro i j hi hj wJ;have:=h i j lm wJ hj;rw[Qe,Qe,Qf hi,Qf hj] at this;exact this
def Vc{xs ys ws:Fr}(h:OT xs ys)(hp:ws.Perm xs)(hw:ws.Pairwise (·<=·)):ys=ws:=
 List.Perm.eq_of_pairwise (λa b _ _ h1 h2=>Mx) (Kx h.2) hw (h.1.trans hp.symm)
def Gv(w:Wo)(I:bF)(s:aX)(h:cR w I s)(dep:Nat)(ae:List (Nat×Int))(at_:Fr)(cs:List ak)(hk:CK s dep ae at_ cs)(p:Int)(hp:bI p)(c:ak)(kJ:Bf cs (p/2^56).toNat=some c)
  (hl:(gu p c.all).length<=12) (v:Va) (ws:Fr) (hv:Ns w w .u32 v ws) (hw:ws.Perm (gu p c.all)) (hs:ws.Pairwise (·<=·)):
  Calls prog 45 #[I.b,ip p,v] w (iF true λw' =>ci w w') :=by
 have HF:=aa (LR w I s h dep ae at_ cs hk p hp OT c kJ λW u hu hW=>(abM w W u _ hu hl).mono λe W' ⟨h1,ys,h2,h3,h4⟩=>⟨h1,ys,h2,h3,hW.trans h4⟩);have HV:=kH hv (by rw[hw.length_eq];omega:ws.length<=1000) hw hs;obtain⟨Av,cv,rfl,-,-⟩:=hv.form;have HN:=aa HV.p2;have⟨n,hn⟩:=eX ws.length;rw[<-hn] at HV|-;clear h hk hp kJ hl hw hs hv hn;go_in;go_upto_region 2 with(go_at_call 114;refine HF.o.mono ?_;rintro e W2 ⟨u,ys,rfl,o2,r2,b2⟩;obtain⟨Au,nu,cu,rfl⟩:=o2.bu;have O2:=aa (And.intro o2 (And.intro r2 b2));clear o2 r2 b2);have he:=Vc O2.p2 HV.p3 HV.q3;have hS:=KE W2 (am Au nu cu) (am Av n cv) ws (he▸O2.p1.ns) (dU HV.p1 O2.q2) HN.o;have HS:=aa hS;clear he hS;go_wp2_with(go_at_call 115;refine Pe HS.o λW3 B3=> ?_);go_ret;exact⟨rfl,Pd O2.q2 B3.o⟩
def rootFits_ok{bP ag:Fr}{hold:GT}(h:BInv s hold)(hp:∀b∈ag,b=0\/2<=b/\b<s.t.len):jJ bP ag s:=by
 have key:∀i,i<=5->∃hold',BInv ((range i).foldl (dE bP ag) s) hold'/\((range i).foldl (dE bP ag) s).t.len=s.t.len:=by
  intro i;induction i with
  |zero=>intro _;exact⟨hold,h,rfl⟩
  |succ i ih=>
   intro hi;obtain⟨hold',h1,h2⟩:=ih Mx;rw[FW];generalize (range i).foldl (dE bP ag) s=S at h1 h2|-;unfold dE;split
   .split
    .dsimp only;by_cases hr:0<S.room
     .have jy:=lY (k:=4) (l:=bG bP i) IN (yk _ _);obtain⟨n,s',e,p⟩:=put_ok h1 (encI 4 (bG bP i)) jy.1 jy.2 hr;rw[e];have hn:=p.inv.own n (Qm ..);obtain⟨r1,r2,-⟩:=root_eff p.inv (i:=i) Mx (b:=(n:Int)) (Or.inr ⟨Mx,Mx⟩);exact⟨_,r1,by rw[r2.len,p.len,h2]⟩
     .have e:S.put (encI 4 (bG bP i))=(0,90,S):=(by have jy:=lY (k:=4) (l:=bG bP i) IN (yk _ _);have:0<=S.room:=(by unfold aX.room;omega);exact zgd);rw[e];exact zeS
    .rename_i hil h0
     have hm:ag.getD i 0∈ag:=(by rw[Qe,Qf hil];exact QI hil);obtain⟨r1,r2,-⟩:=root_eff h1 (i:=i) Mx (b:=ag.getD i 0) (Or.inr (by obtain g|g:=hp _ hm;exact absurd g h0;rw[h2];exact g));exact⟨_,r1,by rw[r2.len,h2]⟩
   .exact zeS
 intro i hi;obtain⟨hold',h1,h2⟩:=key i Mx;generalize (range i).foldl (dE bP ag) s=S at h1 h2|-;unfold ig jm;by_cases hil:i<ag.length
 .rw[Xo hil,Xo hil];by_cases h0:ag.getD i 0=0
  .rw[Xo h0,Xo h0];by_cases hr:0<S.room
   .have jy:=lY (k:=4) (l:=bG bP i) IN (yk _ _);obtain⟨n,s',e,p⟩:=put_ok h1 (encI 4 (bG bP i)) jy.1 jy.2 hr;rw[e];have hn:=p.inv.own n (Qm ..);exact .inr ⟨by show 2<=(n:Int);omega,by show(n:Int)<s'.t.len;omega⟩
   .have e:S.put (encI 4 (bG bP i))=(0,90,S):=(by have jy:=lY (k:=4) (l:=bG bP i) IN (yk _ _);have:0<=S.room:=(by unfold aX.room;omega);exact zgd);rw[e];exact .inl rfl
  .rw[Xd h0,Xd h0];have hm:ag.getD i 0∈ag:=(by rw[Qe,Qf hil];exact QI hil);obtain g|g:=hp _ hm
   .exact absurd g h0
   .exact .inr (h2▸g)
 .rw[Xd hil];exact .inl rfl
def swap_fits{dep:Nat}{ae:List (Nat×Int)}{at_:Fr}{A G B C:List ak}(h:HInv s dep ae at_ (A++G++B))(hw:SwapG A G B C)
  (BH:¬gO s (bt dep ae at_ G C).gone<qt (bt dep ae at_ G C).ag C):
  jJ (dS (bt dep ae at_ G C).dep (foldI bB 0 C (dN s (bt dep ae at_ G C).gone,(bt dep ae at_ G C).cells)).2) (bt dep ae at_ G C).ag (foldI bB 0 C (dN s (bt dep ae at_ G C).gone,(bt dep ae at_ G C).cells)).1:=by
 obtain⟨p,q,tA,tG,tC,tB⟩:=hw.aaP;obtain⟨hsegs,hdep0⟩:=h.ok.ae;have hT0:=h.ok.aaP;have qc:=h.ok.dir.oH.d8;have hcells:bc dep ae=(range 256).map (cellAt (A++G++B)):=hsegs▸(cells_segs qc hT0 hdep0);have hlC:∀c∈C,c.blocks.length=c.ah.length:=λc hc=>(hw.ch c hc).ok.len;obtain⟨-,hkb⟩:=kept_back hw.kept hlC;have⟨cells,uf⟩:=eX (cJ (bc dep ae) C);have⟨d,hd⟩:=eX (jC cells);have⟨bP,kr⟩:=eX (dS d cells);have⟨ag,tz⟩:=eX (jF at_ (expand ae) bP);obtain⟨gp,JM,hperm⟩:=hold_perm h hw (expand ae) bP;rw[<-tz] at JM hperm;have⟨gone,hgone⟩:=eX (iY G C++gp);have hPL:bt dep ae at_ G C=⟨cells,d,bP,ag,gone⟩:=by unfold bt;simp only[<-uf,<-hd,<-kr,<-tz,JM,<-hgone]
 rw[hPL] at BH|-;dsimp only at BH|-;rw[<-hgone] at hperm;have⟨R,hR⟩:=eX (ag.filter (λb=>b !=0)++(dD A++(dD B++(dD C).filter λb=>b !=0)));rw[<-hR] at hperm;have i0:BInv s (gone.map Int.toNat++R.map Int.toNat):=by rw[<-QL];exact h.inv.perm (hperm.map _)
 obtain⟨i1,e1,r1,u1⟩:=downs_ok (gone.map Int.toNat) (R.map Int.toNat) s i0;rw[<-downsV_eq] at i1 e1 r1 u1;have⟨s1,Ip⟩:=eX (dN s gone);rw[<-Ip] at i1 e1 r1 u1;have BK:gO s gone=s1.room:=by rw[r1];rw[gO,free_count i0 gone λx hx=>QB _ (QU.2 ⟨x,hx,rfl⟩)]
 rw[BK] at BH;have hputs:qt ag C=ag.count 0+(dD C).count 0:=by rw[qt,Qbm]
 rw[hputs] at BH;have hcome:∀c∈C,ComeOk c:=λc hc=>⟨(hw.ch c hc).ok.d8,hlC c hc,λsh hs=>(fZ ((hw.ch c hc).ok.right sh hs)).1,λx hx=>((hw.ch c hc).Ej x hx).1⟩;obtain⟨n1,i2,e2,u2,r2,p2,f2⟩:=nameL_ok C s1 (R.map Int.toNat) i1 hcome Mx;have hatr:=h.rg;have kO:∀b∈ag,b=0\/2<=b/\b<(nameL C s1).2.t.len:=λb hb=>by
  obtain⟨j,hj⟩:=Qab hb;by_cases h0:b=0
  .exact .inl h0
  .have hg:ag.getD j 0=b:=(by rw[Qe,hj];rfl);have h1:=pages_at (at_:=at_) (wG:=expand ae) (bP:=bP) (j:=j) zcO;exact zfk
 refine rootFits_ok (hold:=n1++R.map Int.toNat) ?_ ?_
 .rw[<-Ip,done_fold C 0 s1 cells];exact i2
 .rw[<-Ip,done_fold C 0 s1 cells];intro b hb;have:=kO b hb;exact this
def HInv.y7{cs:List ak}(h:HInv s dep ae at_ cs):at_.length+(dD cs).length+2<=s.t.len:=by
 have h1:(0::1::(at_++dD cs).map Int.toNat).Nodup:=by
  have ho:=λb hb=>(h.inv.own b hb).1;refine Qez.2 ⟨λhm=> ?_,Qez.2 ⟨λhm=> ?_,h.inv.nd⟩⟩
  .rcases QA.1 hm with e|hm
   .cases e
   .have:=ho 0 hm;omega
  .have:=ho 1 hm;omega
 have hn:=h.inv.n16;have h2:=Qbz (l₂:=range s.t.len) h1 λx hx=>by
  rw[Zm];obtain rfl|hx:=QA.1 hx
  .omega
  .rcases QA.1 hx with rfl|hx
   .omega
   .exact(h.inv.own x hx).2.1
 simp only[QF,Qq,Qo,Qbk] at h2;omega
def ahead_len(ax dep:Nat)(l:List aD)(bs:Fr)(ss:List ay):(bZ ax dep l bs ss).blocks.length<=bs.length+1:=by
 obtain e|e:=ahead_blocks ax dep l bs ss<;>rw[e]
 .omega
 .simp
theorem added_len:∀(k:Nat) (c:ak) (e:aD),ur c->bY c.ax c.depth (bz e)=true->∀c'∈cP k c e,c'.blocks.length<=c.blocks.length+1
 |0,_,_,_,_,_,h=>absurd h QV
 |k+1,c,e,hG,hi,c',h=>by
  unfold cP at h;split at h
  .rw[Qx] at h;have:=ahead_len c.ax c.depth (qi c.first e) c.blocks.tail c.ah.tail;rw[h];rw[List.length_tail] at this;omega
  .split at h
   .rw[Qx] at h;rw[h];exact ahead_len _ _ _ _ _
   .rename_i h2 h3
    have qc:c.depth<8:=by
     obtain h|h:=Qae c.depth 8
     .exact h
     .exact absurd (xu hG h hi) h3
    have gl:=Jb hG qc (ax:=c.ax) (.inl rfl);have gr:=Jb hG qc (ax:=c.ax+dj c) (.inr rfl);have ll:(dQ c).blocks.length<=c.blocks.length:=Cd hG _ _;have lr:(dd c).blocks.length<=c.blocks.length:=Cd hG _ _;have dl:(dQ c).depth=c.depth+1:=(side_frm _ _ _).2;have dr:(dd c).depth=c.depth+1:=(side_frm _ _ _).2;split at h
    .rename_i h4
     obtain h|h:=Qz.1 h
     .have:=added_len k (dQ c) e gl h4 c' h;omega
     .rw[Qx] at h;rw[h];omega
    .rename_i h4
     have hs:=Ce qc hG.ok.f256 hG.ok.mod hi;have hr:bY (dd c).ax (dd c).depth (bz e)=true:=(by rw[dr,show(dd c).ax=c.ax+dj c from(side_frm _ _ _).1];rw[dl,show(dQ c).ax=c.ax from(side_frm _ _ _).1] at h4;refine hs.2.2 ?_;have h5:bz e/2^(7 - c.depth)%2≠0:=λh0=>h4 (hs.1.2 h0);omega);obtain h|h:=QA.1 h
     .rw[h];omega
     .have:=added_len k (dd c) e gr hr c' h;omega
theorem added_ft{A B:List ak}{c:ak}{e:aD}(h:HInv s dep ae at_ (A++[c]++B))(he:tw e)(h0:0<=e.block)(bT:e∉c.all)(hi:bY c.ax c.depth (bz e)=true):
  (dD (cP 9 c e)).length<=100000/\∀c'∈cP 9 c e,qo c' :=by
 have oS:c∈A++[c]++B:=QB _ (QD _ (Qx.2 rfl));have hb:=fL _ c oS;have hf:=h.y7;have hn:=h.inv.tok.n1;have sq:c.blocks.length<=(dD (A++[c]++B)).length:=hb;have hl:=added_many h he h0 bT hi;have h5:=h.ok.dir.af6.1;obtain⟨g1,-⟩:=added_ok 9 c e (h.ch c oS) Mx he bT hi;refine⟨Mx,λc' TJ => ?_⟩;have hG:=g1 c' TJ;have:=added_len 9 c e (h.ch c oS) hi c' TJ;exact⟨⟨hG.ok.len,Mx,hG.Ej⟩,hG.ok.d8,hG.ok.f256,hG.ok.ne⟩
def keysF_any(w:Wo)(m:Nat):Calls prog 38 #[.map (some m)] w (iF (.func (.func 102) #[] #[w]) λw' =>w' =w.alloc (.cells #[.map (some m)] 56)):=by go_in;go_wp2;exact vl
def keysF_in(n:Nat)(hn:1<=n)(l n0 Bx m s:Nat)(f:Int->Option (Option (Nat×Nat)))(J:List Int->Wo->Prop)(W:Wo)(jU:n0<=W.heap.size)(j8:Bx<W.heap.size)
  (hJ:∀pre A C (r:Option Nat),J pre A->A.grownBy C r->(∀j o,r=some j->A.heap[j]? =some o->o.isCells=false/\W.heap.size<=j)->J pre C)
  (hY:∀pre x,OkK f pre x->∀W1,J pre W1->YieldAt Fence.wide (n - 1) prog l #[.int .i64 x] W1 λe W' =>e= .returned true/\J (pre++[x]) W'/\fo n0 Bx W1 W'/\KeepsOthers W1 W')
  (aH:W.cell? Bx=some (.map (some m))) (hm:MG Ud W m f s) (h0:J [] W):
  CallsIn Fence.wide n prog 102 #[.func (.yield l) #[] #[],Bx] W λe W' =>(∃v,e= .returned v)/\∃pre,sL f pre/\J pre W' :=by
 obtain⟨D,bN,cz,hD⟩:=hm;have zt:=aa bN;have HD:=aa hD;have HJ:=aa hJ;have HY:=aa hY;have H0:=aa h0;have Hb:=dK jU j8;clear bN hD hJ hY h0 cz jU j8;refine Qfc func102 rfl trivial ?_ rfl;simp only[ntmps102,QW,QF,Xq,Nat.reduceAdd,Nat.reduceSub,Xv,Xw,Xx,Xy,QZ,Qaj];gi_wp2_with (first|(gi_at_range;refine wpListIn_range_own _ rfl _ 56 rfl 3 95 Ud.keyed underlying56 _ m s D rfl zt.o ?_;intro w0 agi AV lz));go_frame;have anL:=aa agi;have HJ0:=aa (HJ.o _ _ _ none H0.o AV (λj o h=>zaY));have Hs0:=aa lz;clear agi AV lz aH;gi_loopw [3] (λ_ wr=>∃(pre:Fr) (left:Lit->Bool) (cnt:Nat),Af (wr.ranges prog 3 Ud.R m W s D left cnt/\pre.Nodup/\(∀x∈pre,(f x).isSome=true)/\(∀x,Ud.qY x->left (.int .i64 x)=((f x).isSome&& !pre.contains x))/\J pre wr)) (λ_ wr=>wr.rangeLeft m W.heap.size)
 .exact zeF
 .obtain⟨pre,left,cnt,HR⟩:=hrel;have HRg:=aa HR.p1;gi_wp2_with (first|(gi_at_next;refine wpListIn_next_ranges _ rfl _ rfl 3 Ud.keyed Ud.R (Value.int .i64) sw (λkey kl hk=>by obtain⟨x,_,e⟩:=Ud.sB key kl hk;exact⟨x,e⟩) (λv y hv=>by obtain⟨c,e,_⟩:=Ud.Bm v y hv;exact⟨c,e⟩) m W s D _ _ rfl HRg.o ?_ ?_))
  .intro _ bm;have Fe:=aa bm;clear bm;gi_wp2;go_end0;exact zej
  .intro x c kl y ps w1 avU ir SG hv kJ agh aJ SN Ip hen;have ec:Ud.qY x:=(by obtain⟨x',We,e⟩:=Ud.sB _ _ ir;have e2:=Ud.Bn x x' e;rw[e2];exact We);obtain rfl:kl= .int .i64 x:=Qr (ir.symm.trans (Ud.ir x ec));have xx:=HR.p4 x ec;rw[SG] at xx;have hx2:(f x).isSome=true/\x∉pre:=zfO
   have hJ1:J pre w1:=HJ.o _ _ _ (some W.heap.size) HR.q4 SN (λj o hj ho=>by
    cases hj
    obtain⟨es,clock,since,seen,c0,e1,e2,e3,e4,e5,e6⟩:=HRg.o;rw[e5] at ho
    cases ho
    exact⟨rfl,Qg _⟩)
   have Hy:=aa (HY.o pre x ⟨⟨hx2.2,hx2.1⟩,HR.p2,HR.p3⟩ w1 hJ1);have anK:=aa agh;have bj:=aa aJ;have Hx:=aa hx2;clear ir SG hv kJ agh aJ SN Ip ec xx hx2 hJ1;gi_upto_region 3 with fail;obtain⟨fn,tmps,assign,bd,hy,Nr⟩:=Hy.o;gi_wp2;refine Nr.mono ?_;rintro e W3 ⟨rfl,Nu,jW,hk3⟩;have HJ3:=aa Nu;have ag8:=aa (Dn anK.o hk3);clear hy Nr Nu jW hk3 hen;gi_wp2;go_roundw
   .refine⟨pre++[x],_,_,ag8.o,?_,λz hz=> ?_,λz hz=> ?_,HJ3.o⟩
    .rw[List.nodup_append];exact⟨HR.p2,Sv,λa ha b hb=>zbV⟩
    .rcases Qz.1 hz with h|h
     .exact HR.p3 z h
     .rw[Qx] at h;subst h;exact Hx.p1
    .rw[HR.p4 z hz];by_cases hzx:z=x
     .subst hzx;rw[show(Lit.int .i64 z).sameKey (.int .i64 z)=true from WideAt.sameKey_self (Ud.isKey hz)];simp
     .have h1:(Lit.int .i64 z).sameKey (.int .i64 x)=false:=by
       cases hs:(Lit.int .i64 z).sameKey (.int .i64 x)
       .rfl
       .exact absurd (WideAt.sameKey_eq hs) (λe=>hzx zdk)
      rw[h1];simp[hzx]
   .rw[ag8.o.left_eq,HRg.o.left_eq];exact bj.o
def iter_keysF(m s Bx:Nat)(f:Int->Option (Option (Nat×Nat))):IY 102 Bx f (λW=>MG Ud W m f s/\W.cell? Bx=some (.map (some m))):=
 λn l n0 J W hn jU j8 hJ hY hP h0=>keysF_in n hn l n0 Bx m s f J W jU j8 hJ hY hP.2 hP.1 h0
def keysOf_chg{t:aE}(h:t.Ok):gJ t.kept=t.changed.map λb:Nat=>(b:Int):=by unfold gJ aE.changed;rw[h.J0]
variable{o slot:Nat}{cs:Ox}{dv pv:Va}{k x y:aN}{br:Bool}{w' :Wo}{I:bF}
def load_superO{w:Wo}(hl:cs.length=18)(h:∀j v,cs[j]? =some v->jp w b (o+j) v):(loadVar 60 (an b o)).run prog w= .ok (.agg cs.toArray) w:=by have h1:=Qay (P:=prog) w (an b o) cs (λj v hj=>by rw[dP];exact h j v hj);simp only[hl] at h1;have h2:(isAgg 60).run prog w= .ok true w:=KJ;have h3:(sizeOf 60).run prog w= .ok 18 w:=KJ;exact zfI
def there_blkO{w:Wo}{t:Fy}{n:Nat}(h:aq w b t cs)(hn:o+n<=cs.length):w.there b o n:=λj hj=>by obtain⟨v,hv⟩:∃v,cs[o+j]? =some v:=⟨_,Qf Mx⟩;exact⟨by rw[h.cell hv];rfl,h.free (o+j)⟩
section
def df.no(w:Wo)(I:bF)(fr:List (Option (List Int))):df w I (fr.map λ_=>none) (fr.map λ_=>none):=by refine⟨Sv,λi=> .inl ⟨?_,?_⟩⟩<;>(rw[Qe,Qt];cases fr[i]? <;>rfl)
def optS_no(fr:List (Option (List Int))):jf (fr.map λ_=>(none:Option (Nat×Nat)))=replicate fr.length none:=by rw[jf,Qbg,<-Qib];rfl
def cR.clearF(h:cR w I s)(hg:w.grownBy w' (some I.fb))(hm:MG Ud w' I.fb (λ_=>none) 0):cR w' I {s with fresh:=s.fresh.map λ_=>none}:=by
 obtain⟨pv,dv,ps,c⟩:=h.cells;have ok:=h.ok;refine h.Pf c (S:=λ_=>False) (λ_ e=>e.elim) (aG.refl _ _) hg h.fh h.pick (DX :=s.fresh.map λ_=>none) ?_ (df.no _ _ _) ⟨ok.bl,by rw[Qq];exact ok.fr,ok.pg,ok.dg,ok.rg,ok.n2,ok.nl,ok.sup,ok.kep,ok.slot,λd hd=> ?_⟩
 .rw[optS_no,<-ko,qN];exact hm
 .obtain⟨x,-,hx⟩:=QU.1 hd;cases hx
def baseC_sup2{I:bF}(h:bM x)(hk:bM k)(hy:bM y):(ni I pv dv x k slot br).take 6++aP y++(ni I pv dv x k slot br).drop (6+(aP y).length)=ni I pv dv y k slot br:=by
 rw[bK hy];have e:(ni I pv dv x k slot br).drop (6+18)=(aP x++(aP k++[ac slot,Value.bool br])).drop 18:=by unfold ni;simp only[QY];rfl
 rw[e,Qdl (bK h)];unfold ni;simp only[QY];rfl
def baseC_kep2{I:bF}(h:bM x)(hk:bM k)(hy:bM y):(ni I pv dv x k slot br).take 24++aP y++(ni I pv dv x k slot br).drop (24+(aP y).length)=ni I pv dv x y slot br:=by rw[bK hy];unfold ni;rw[Qdl zcw,QY (_++aP x) (aP k),Qcv (by simp[bK h])]
def cR.loadK(h:cR w I s):(loadVar 60 (an I.b 24)).run prog w= .ok (.agg (aP s.kept).toArray) w:=by obtain⟨pv,dv,ps,c⟩:=h.cells;exact load_superO (bK h.ok.kep) λj v hj=>c.own.cell (by rw[baseC_kep h.ok.sup h.ok.kep (by have:=(Ql.1 hj).1;rw[bK h.ok.kep] at this;exact this)];exact hj)
def cR.loadX(h:cR w I s):(loadVar 60 (an I.b 6)).run prog w= .ok (.agg (aP s.eO).toArray) w:=by obtain⟨pv,dv,ps,c⟩:=h.cells;exact load_superO (bK h.ok.sup) λj v hj=>c.own.cell (by rw[Mo h.ok.sup (by have:=(Ql.1 hj).1;rw[bK h.ok.sup] at this;exact this)];exact hj)
end
variable{dst:Option Tmp}{ty:Fy}{pos:String}{after:Array Edge}{B base sb:Nat}{S:FV}{sd sp v v1 v2 v3 v4 v5 v6:Va}{l:List (Va × ri)}
def exec_loadG{P:ST}{f:Operand->Va}{x:Operand}{t:Fy}{g:Option (Nat×Bool)}(p v:Va)(hx:f x=p)(h:(Instr.loadAt t p).run P w= .ok v w):
  (execOp f ⟨dst,.load t x,ty,pos,after,g⟩).run P w= .ok (.value v) w:=by
 rw[<-hx] at h;simp[execOp,h,Result.andThen]
def cR.To(h:cR w I s):s.t.Ok:=h.fh.ok
def cR.loadXA(h:cR w I s):(Instr.loadAt 60 (ro I.b 6)).run prog w= .ok (.agg (aP s.eO).toArray) w:=h.loadX
def cR.loadKA(h:cR w I s):(Instr.loadAt 60 (ro I.b 24)).run prog w= .ok (.agg (aP s.kept).toArray) w:=h.loadK
def eqX(x y:aN)(hx:bM x)(hy:bM y)(W:Wo):(binOp .eql 60 (.agg (aP x).toArray) (.agg (aP y).toArray)).run prog W= .ok (.bool (decide (x=y))) W:=by rw[run_eql_struct,ahy W x y hx hy];rfl
def step_app_st{ops:LC}{Q:Mp}{a:Act}{os ox:Operand}{E:Prop}{K:Act->Wo->Prop}{d:Nat}(bN:eB w base S d v l){vx:Va}{m:List (Va×ri)}(hx:Sl w B 1 vx m.length (m.map Prod.fst))(hm:∀p∈m,cB w (Iz S v.ownBlock) d p.1 p.2)
  (hb:l.length+m.length<=1000000) (ey:base<=w.heap.size) (hs:a.eval os=v) (AM:a.eval ox=vx) (hK:∀v' w',eB w' base S d v' (l++m)->w.grownBy w' v.ownBlock->K (a.put dst v') w'):
  if Region.wanted ⟨dst,.call {callee:= .builtin .append,args:= #[os,ox],argTypes:= #[90,90]},ty,pos,after,none⟩ (yielded ops a.tmps)=true then Oper.wp prog ⟨dst,.call {callee:= .builtin .append,args:= #[os,ox],argTypes:= #[90,90]},ty,pos,after,none⟩ a w K Q else E:=by
 obtain⟨v',w',hr,h2,h3,h4⟩:=cy (P:=prog) w base 90 ty 97 _ 1 8 underlying90 ab8 rfl Fd v l.length _ bN.1 vx m.length _ hx (Kw hm) Do Mx ey;simp only[Region.wanted,Qdx];unfold Oper.wp execOp;simp only[resolve,invoke,builtin,Qaz,Qcc,XH,Qep,Zs,Qfh,hs,AM,hr];exact hK v' w' (bN.more hm h2 h3 h4) h3
structure CmPre(s:aX):Prop where
 live:s.broken=false
 p0:(fm s.t s.next s.ag s.au).1=0
 len:(fm s.t s.next s.ag s.au).2.t.len=s.t.len
 nx:2<=(fm s.t s.next s.ag s.au).2.next/\(fm s.t s.next s.ag s.au).2.next<=s.t.len
 rg:∀y∈(fm s.t s.next s.ag s.au).2.ag++(fm s.t s.next s.ag s.au).2.au,0<=y/\y<s.t.len
 pl:(fm s.t s.next s.ag s.au).2.ag.length=s.ag.length/\(fm s.t s.next s.ag s.au).2.au.length=s.au.length
 pp:(fm s.t s.next s.ag s.au).2.pp.length=s.ag.length/\(fm s.t s.next s.ag s.au).2.pd.length=s.au.length
 sup:bM {qE s.eO (fm s.t s.next s.ag s.au).2.au with gen:=s.eO.gen+1}
 right:nm {qE s.eO (fm s.t s.next s.ag s.au).2.au with gen:=s.eO.gen+1}=true
 keep:(fm s.t s.next s.ag s.au).2.t.keep.Ok
def plX(s:aX):fk:=(fm s.t s.next s.ag s.au).2
def frB(s:aX):List Nat:=(range s.fresh.length).filter λb=>(s.fresh.getD b none).isSome
def stF(s:aX)(b:Nat):ri:= .wr b ((s.fresh.getD b none).getD [])
def xN(s:aX):aN:={qE s.eO (plX s).au with gen:=s.eO.gen+1}
def plS(s:aX):aX:={s with t:=(plX s).t,next:=(plX s).next}
def cmSt(s:aX):List ri:=(frB s).map (stF s)++tR (plX s).t (plX s).ag (plX s).au (gG (plX s).pp) (gG (plX s).pd)++[.fl,.wr (1 - s.slot) (J7 (xN s)),.fl]
def cm_st(ok:Yj s)(p:CmPre s)(h16:16<=s.t.len):∀st∈cmSt s,abp s.bl.length st:=by
 have fg:=ok.bl;intro st cO;have key:∀{b:Int} {data:Fr},b∈(plX s).ag++(plX s).au->data.length=128->abp s.bl.length (.wr b.toNat data):=λhb hd=>⟨by have:=p.rg _ hb;omega,hd⟩;unfold cmSt tR at cO;simp only[Qz,QU,QA,QV,Qiy] at cO;rcases cO with(⟨b,hb,rfl⟩|⟨i,hi,rfl⟩|⟨i,hi,rfl⟩)|rfl|rfl|rfl
 .obtain⟨h1,h2⟩:=Qia.1 hb;obtain⟨data,hd⟩:=Option.isSome_iff_exists.1 h2;have h3:=Zm.1 h1;unfold stF;rw[hd];refine⟨by rw[fg,<-ok.fr];exact h3,(ok.fd data ?_).1⟩;rw[Qe,Qf h3] at hd;exact hd▸QI h3
 .have hl:i<(plX s).ag.length:=by have h1:=xK hi;rw[show(plX s).pp.length=s.ag.length from p.pp.1] at h1;rw[show(plX s).ag.length=s.ag.length from p.pl.1];exact h1
  exact key (QB _ (by rw[Qe,Qf hl];exact QI hl)) (lY ⟨Fd,Fd⟩ (DN _ _)).1
 .have hl:i<(plX s).au.length:=by have h1:=xK hi;rw[show(plX s).pd.length=s.au.length from p.pp.2] at h1;rw[show(plX s).au.length=s.au.length from p.pl.2];exact h1
  exact key (QD _ (by rw[Qe,Qf hl];exact QI hl)) (lY ⟨Fd,Fd⟩ (yk _ _)).1
 .trivial
 .exact⟨Mx,(GK (s:=xN s) p.sup).1⟩
 .trivial
def cR.withD(h:cR w I s)(hc:aG (DS I.d I.pl) w w'){bl:List (List Int)}(hd:cF w' I.d I.pl bl)(hl:bl.length=s.bl.length):cR w' I {s with bl:=bl}:=by obtain⟨pv,dv,ps,c⟩:=h.cells;have hS:∀x,DS I.d I.pl x->BS I x:=λx hx=>VX;obtain⟨n1,n2,n3,n4,n5,n6,n7⟩:=h.uJ;obtain⟨f1,f2,f3,f4,f5,f6,f7⟩:=h.J5;have ok:=h.ok;have c2:=c.aL hc hS (λe=>e.elim n1 n2) (λe=>e.elim f1 f2);exact⟨⟨pv,dv,ps,c2.own,c2.ag,c2.ed,c2.au,c2.fT,c2.jg,c2.kz⟩,hd,h.fh.aL hc (λe=>e.elim (h.fh.own.ne h.dM.own Fd) (h.fh.own.ne h.dM.eP Fd)) (λe=>e.elim (h.fh.counts.ne h.dM.own Fd) (h.fh.counts.ne h.dM.eP Fd)) (λe=>e.elim (λe=>aq.bS h.dM.own h.fh.kept e.symm) (λe=>aq.bS h.dM.eP h.fh.kept e.symm)),h.pick.aL hc (λe=>e.elim (h.pick.ne h.dM.own Fd) (h.pick.ne h.dM.eP Fd)),h.mf,⟨hl.trans ok.bl,ok.fr,ok.pg,ok.dg,ok.rg,ok.n2,ok.nl,ok.sup,ok.kep,ok.slot,ok.fd⟩⟩
def cm_all(h:cR W I (plS s))(ok:Yj s)(p:CmPre s)(h16:16<=s.t.len)(hb:∀x,BS I x->x<base)(ho:eB W base (DS I.d I.pl) I.d v l)(hl:l.map Prod.snd=cmSt s)(hll:l.length<=9000):
  Calls prog 43 #[v] W (iF (ac 0) λw' =>cR w' I {plS s with bl:=(iW (s.bl,[]) (cmSt s)).1}/\aG (DS I.d I.pl) W w') :=by
 have hd:=h.dM;have hS:∀x,DS I.d I.pl x->BS I x:=λx hx=>VX;have h1:=St W I.d I.pl s.bl hd v l (Sl.bU ho.1) (λb o m c hm e tF=>by subst e;exact XV.2 (Xr ho.1 b rfl).1 (hb b (hS b tF))) (λq hq=>⟨(ho.2 q hq).is (λx hx=> .inl hx),cm_st ok p h16 _ (by rw[<-hl];exact List.mem_map_of_mem hq)⟩) hll (by rw[hl];unfold cmSt;rw[List.getLast?_append];rfl);rw[hl] at h1;refine h1.mono ?_;rintro e w' ⟨rfl,h2,h3⟩;exact⟨rfl,h.withD h3 h2 (xW _ _),h3⟩
def cmS(s:aX):aX:={s with bl:=(iW (s.bl,[]) (cmSt s)).1,t:=(plX s).t.keep,next:=(plX s).next,ag:=(plX s).ag,au:=(plX s).au,fresh:=s.fresh.map λ_=>none,eO:=xN s,kept:=xN s,slot:=1 - s.slot}
def cm_eq(p:CmPre s)(ok:Yj s)(hc:¬(s.t.changed.length=0/\s.eO=s.kept)):s.commit=(0,cmS s):=by
 have e:(iW (s.bl,[]) (cmSt s)).1=eS (eS s.bl ((((range s.fresh.length).filter λb=>(s.fresh.getD b none).isSome).map λ(b:Nat)=>((b:Int),(s.fresh.getD b none).getD []))++pagedV (plX s).t (plX s).ag (plX s).au (gG (plX s).pp) (gG (plX s).pd))) [(1 - (s.slot:Int),J7 (xN s))]:=by
  have h1:cmSt s=((frB s).map λb=>ri.wr b ((s.fresh.getD b none).getD []))++(((gG (plX s).pp).map λi=>ri.wr ((plX s).ag.getD i 0).toNat (encI 5 (eI (plX s).t i)))++(((gG (plX s).pd).map λi=>ri.wr ((plX s).au.getD i 0).toNat (encI 4 (bG (plX s).ag i)))++[.fl,.wr (1 - s.slot) (J7 (xN s)),.fl])):=by unfold cmSt tR stF qq sy;simp only[QY]
  rw[h1,xX,runSt_wr,xX,runSt_wr,xX,runSt_wr];have hs:((1 - s.slot:Nat):Int)=1 - (s.slot:Int):=by have:=ok.slot;omega
  have hg:∀{l:Fr} {i:Nat},(∀y∈l,0<=y)->(((l.getD i 0).toNat:Nat):Int)=l.getD i 0:=λ{l i} h=>by
   rw[Qe];cases e:l[i]? with
   |none=>rfl
   |some y=>exact Xp (h y (Qi e))
  have g1:∀y∈(plX s).ag,0<=y:=λy hy=>(p.rg y (QB _ hy)).1;have g2:∀y∈(plX s).au,0<=y:=λy hy=>(p.rg y (QD _ hy)).1;simp only[iW,QZ,hs,hg g1,hg g2];unfold pagedV frB;rw[QY]
 unfold aX.commit;rw[p.live,Xd Fd,Xd hc];simp only;rw[Xd (by rw[p.p0];exact λh=>h rfl)];unfold cmS;rw[e,p.live];rfl
def cm_ok(p:CmPre s)(ok:Yj s):Yj (cmS s):=by
 have l1:(plX s).t.keep.len=s.t.len:=p.len;have q1:(plX s).ag.length=s.ag.length:=p.pl.1;have q2:(plX s).au.length=s.au.length:=p.pl.2;refine⟨?_,?_,?_,?_,?_,p.nx.1,?_,p.sup,p.sup,?_,λd hd=> ?_⟩
 .show(iW (s.bl,[]) (cmSt s)).1.length=(plX s).t.keep.len;rw[xW,l1];exact ok.bl
 .show(s.fresh.map _).length=(plX s).t.keep.len;rw[Qq,l1];exact ok.fr
 .show((plX s).ag.length:Int)=aR ((plX s).t.keep.len:Int);rw[l1,q1];exact ok.pg
 .show((plX s).au.length:Int)=aR ((plX s).ag.length:Int);rw[q1,q2];exact ok.dg
 .show ∀x∈(plX s).ag++(plX s).au,0<=x/\x<((plX s).t.keep.len:Int);rw[l1];exact p.rg
 .show(plX s).next<=(plX s).t.keep.len;rw[l1];exact p.nx.2
 .show 1 - s.slot<=1;omega
 .obtain⟨x,-,hx⟩:=QU.1 hd;cases hx
def baseC_slot2{k:aN}{n:Nat}{br:Bool}(h:bM x)(hk:bM k):(ni I pv dv x k slot br).set 42 (ac n)=ni I pv dv x k n br:=by unfold ni;rw[ZB _ _ zcw];simp[bK h,bK hk]
def cR.finish(h:cR w I s){ag au:Fr}(hb:aq w' I.b 62 (ni I sp sd x x slot s.broken))(hc:aG (λy=>y=I.b) w w')
  (n1:Ns w w .i64 sp ag) (n2:Ns w w .i64 sd au) (a1:Ap (BS I) sp) (a2:Ap (BS I) sd) (ok:Yj {s with ag:=ag,au:=au,eO:=x,kept:=x,slot:=slot}):cR w' I {s with ag:=ag,au:=au,eO:=x,kept:=x,slot:=slot}:=by
 obtain⟨m1,m2,m3,m4,m5,m6,m7⟩:=h.uJ;obtain⟨pv,dv,ps,c⟩:=h.cells;have hS:∀x,x=I.b->BS I x:=λx e=> .inl e
 exact⟨⟨sp,sd,ps,hb,Sl.more (Sl.aL n1 hc go (a1.mono hS)) hc.size,a1,Sl.more (Sl.aL n2 hc go (a2.mono hS)) hc.size,a2,c.jg.aL hc (Xm m7),c.kz.aL hc hS⟩,
  ⟨h.dM.own.aL hc (Xm m1),h.dM.eP.aL hc (Xm m2),h.dM.ne,h.dM.size,h.dM.byte,h.dM.n0,h.dM.n1⟩,h.fh.aL hc (Xm m3) (Xm m4) (Xm m5),h.pick.aL hc (Xm m6),h.mf,ok⟩
def cR.place(h:cR W I s)(p:CmPre s)(h3:jp W I.b 3 pv)(h4:jp W I.b 4 dv):
  Calls prog 35 #[I.tb,I.pb,.agg #[pv,dv]] W λe w' =>(∃sp sd wp wd,e= .returned (.tuple #[.agg #[sp,sd],wp,wd,ac 0])/\US w' W sp (plX s).ag/\US w' W sd (plX s).au/\aB w' W 3 .i64 wp (eT (plX s).pp)/\aB w' W 3 .i64 wd (eT (plX s).pd))/\bf w' I.tb I.cb I.mb (plX s).t/\aq w' I.pb 131 (iX I.tb 2 (plX s).next)/\aG (QS I.pb I.tb I.cb I.mb) W w' :=by
 obtain⟨pv',dv',ps,c⟩:=h.cells;obtain rfl:pv' =pv:=Qr ((c.own.j3).symm.trans h3);obtain rfl:dv' =dv:=Qr ((c.own.j4).symm.trans h4);have ok:=h.ok;have hn:=h.n0;refine(FX W I.tb I.cb I.mb I.pb s.next s.t h.fh h.pick ok.n2 ok.nl pv' dv' s.ag s.au c.ag c.au ok.pg ok.dg λx hx=>⟨(ok.rg x hx).1,by have:=(ok.rg x hx).2;omega⟩).mono ?_;rintro e w' ⟨⟨v,rfl,hv⟩,ht,hp,hc⟩;refine⟨?_,ht,hp,hc⟩;rcases hv with⟨h1,-⟩|⟨-,sp,sd,wp,wd,rfl,h2⟩
 .exact absurd p.p0 h1
 .exact⟨sp,sd,wp,wd,rfl,h2⟩
def cR.placed(h:cR w I s)(p:CmPre s)(hc:aG (QS I.pb I.tb I.cb I.mb) w w')(ht:bf w' I.tb I.cb I.mb (plX s).t)(hp:aq w' I.pb 131 (iX I.tb 2 (plX s).next)):cR w' I (plS s):=by
 obtain⟨pv,dv,ps,c⟩:=h.cells;have ok:=h.ok;have l1:(plX s).t.len=s.t.len:=p.len;refine h.Pf c (S:=QS I.pb I.tb I.cb I.mb) (λ_ e=>e) hc ⟨rfl,rfl,rfl,go,λ_ _ _=>rfl⟩ ht hp (DX :=ps) ?_ ?_ ⟨by show s.bl.length=(plX s).t.len;rw[l1];exact ok.bl,by show s.fresh.length=(plX s).t.len;rw[l1];exact ok.fr,by show _=aR ((plX s).t.len:Int);rw[l1];exact ok.pg,ok.dg,λx hx=>by show 0<=x/\x<((plX s).t.len:Int);rw[l1];exact ok.rg x hx,p.nx.1,by show(plX s).next<=(plX s).t.len;rw[l1];exact p.nx.2,ok.sup,ok.kep,ok.slot,ok.fd⟩
 .refine c.jg.aL hc λe=> ?_;obtain e|e|e|e:=e
  .exact aq.bS h.pick c.jg e.symm
  .exact aq.bS h.fh.own c.jg e.symm
  .exact aq.bS h.fh.counts c.jg e.symm
  .exact h.mf e.symm
 .exact c.kz.aL hc IV
structure CmSt(w:Wo)(I:bF)(s:aX)(sb:Nat)(sp sd v5 v6:Va)(W:Wo):Prop where
 base:cR W I (plS s)
 aL:aG (BS I) w W
 sh:aq W sb 55 [sp,sd]
 spn:Ns W W .i64 sp (plX s).ag
 sdn:Ns W W .i64 sd (plX s).au
 spa:Ap (BS I) sp
 sda:Ap (BS I) sd
 wp:Ns W W .i64 v5 (eT (plX s).pp)
 wd:Ns W W .i64 v6 (eT (plX s).pd)
 sb:w.heap.size<=sb
def CmSt.on(h:CmSt w I s sb sp sd v5 v6 W)(hb:ci W W'):CmSt w I s sb sp sd v5 v6 W' :=
 ⟨h.base.on hb,h.aL.trans (aG.aZ hb),h.sh.on hb,(h.spn.below hb).more hb.size,(h.sdn.below hb).more hb.size,h.spa,h.sda,(h.wp.below hb).more hb.size,(h.wd.below hb).more hb.size,h.sb⟩
def newN_ap{b:Nat}(h:US w' b v xs)(hS:∀x,S x->x<b):Ap S v:=λx o n c hn e hx=>by have:=h.2 x zcG;exact absurd (hS x hx) (XV.2 this)
def keep5{b1 b2 o1 o2 o3 o4 o5:Nat}(e1:W'.heap[b1]? =W.heap[b1]?)(e2:W'.heap[b2]? =W.heap[b2]?)(h:jp W b1 o1 v1/\jp W b1 o2 v2/\jp W b1 o3 v3/\jp W b2 o4 v4/\jp W b2 o5 v5):
  W'.cell? (an b1 o1)=some v1/\jp W' b1 o2 v2/\jp W' b1 o3 v3/\jp W' b2 o4 v4/\jp W' b2 o5 v5:=
 ⟨(Qau e1).trans h.1,(Qau e1).trans h.2.1,(Qau e1).trans h.2.2.1,(Qau e2).trans h.2.2.2.1,(Qau e2).trans h.2.2.2.2⟩
def ns_form3{k:IntKind}(h:Ns w B k v xs):∃A n c,v= am A n c:=by obtain⟨A,c,e,-,-⟩:=h.form;exact⟨_,_,_,e⟩
def keep4{a1 a2 a3 a4:Addr}(hb:ci W W')(h:W.cell? a1=some v1/\W.cell? a2=some v2/\W.cell? a3=some v3/\W.cell? a4=some v4):W'.cell? a1=some v1/\W'.cell? a2=some v2/\W'.cell? a3=some v3/\W'.cell? a4=some v4:=
 ⟨(hb.cell (XX h.1)).trans h.1,(hb.cell (XX h.2.1)).trans h.2.1,(hb.cell (XX h.2.2.1)).trans h.2.2.1,(hb.cell (XX h.2.2.2)).trans h.2.2.2⟩
def CmSt.Wc{W6 W7:Wo}{b5:Nat}{z0 z1:Va}(h:cR w I s)(p:CmPre s)(hc:aG (QS I.pb I.tb I.cb I.mb) w W6)(ht:bf W6 I.tb I.cb I.mb (plX s).t)(hp:aq W6 I.pb 131 (iX I.tb 2 (plX s).next))
  (jq:aq W6 sb 55 [z0,z1]) (hs:w.heap.size<=sb) (h5:w.heap.size<=b5) (n1:US W6 b5 sp (plX s).ag) (n2:US W6 b5 sd (plX s).au) (n3:aB W6 b5 3 .i64 v5 (eT (plX s).pp)) (n4:aB W6 b5 3 .i64 v6 (eT (plX s).pd))
  (a1:Ap (λx=>x=sb) sp) (a2:Ap (λx=>x=sb) sd) (he:W7=(W6.setCell (ol sb) sp).setCell (an sb 1) sd):CmSt w I s sb sp sd v5 v6 W7:=by
 have hb:=h.lt;have c7:aG (λx=>x=sb) W6 W7:=by rw[he];exact((aG.refl (λx=>x=sb) W6).setCell (p:=ol sb) (λ_=>rfl) sp).setCell (p:=an sb 1) (λ_=>rfl) sd
 have cw:aG (QS I.pb I.tb I.cb I.mb) w W7:=⟨c7.os.trans hc.os,c7.tape.trans hc.tape,c7.output.trans hc.output,Qh hc.size c7.size,λx hx hn=>(c7.block x (Qn hx hc.size) (λe=>absurd hx (XV.2 (e▸hs)))).trans (hc.block x hx hn)⟩;have ne:∀x,BS I x->¬x=sb:=λx hx e=>absurd (hb x hx) (XV.2 (e▸hs));have ht7:=ht.aL c7 (ne _ zcU) (ne _ zcU) (ne _ zcU);have hp7:=hp.aL c7 (ne _ zcU);have apb:∀{v xs},US W6 b5 v xs->Ap (BS I) v:=λhv=>newN_ap hv λx hx=>Qn (hb x hx) h5;refine⟨h.placed p cw ht7 hp7,cw.mono λx _ e=>IV x e,by rw[he];exact jq.NV sp sd,(Sl.aL n1.1 c7 go a1).more c7.size,(Sl.aL n2.1 c7 go a2).more c7.size,apb n1,apb n2,?_,?_,hs⟩
 .exact(Sl.aL (aB.sl n3) c7 go (λx o n c hn e hx=>aq.not_row jq Fd n3 (by rw[e,<-hx];rfl))).more c7.size
 .exact(Sl.aL (aB.sl n4) c7 go (λx o n c hn e hx=>aq.not_row jq Fd n4 (by rw[e,<-hx];rfl))).more c7.size
def commitB_any(w:Wo)(I:bF)(s:aX)(h:cR w I s)(hp:CmPre s):
  Calls prog 11 #[I.b] w (iF (.int .i64 s.commit.1) λw' =>cR w' I s.commit.2/\aG (BS I) w w') :=by
 have HM:=aa (nJ w I s h);rw[show s.may=0 by unfold aX.may;rw[hp.live];rfl] at HM;have H:=aa h;have Hp:=aa hp;clear h hp;go_in;go_upto_region 4 with(first
  |(go_at_call 33;refine HM.o.mono ?_;rintro e W2 ⟨rfl,rfl⟩))
 go_cut [37] from 4 to 5 (λt W=>Af (t= .bool (decide (s.t.changed.length=0)&&decide (s.eO=s.kept))/\ci w W))
 .have hS:cR w.drew I s:=H.o.on (below_drewN (Xj _ _) 1);have HC:=aa (DR w.drew I.tb I.cb I.mb s.t hS.fh);rw[keysOf_chg H.o.To] at HC;obtain⟨n,hn⟩:∃n,n=s.t.changed.length:=⟨_,rfl⟩;have Hn:=aa hn;have heq:=eqX s.eO s.kept H.o.ok.sup H.o.ok.kep;have Wv:prog.eqGuardType prog.depth 60=false:=by kernel_rfl
  obtain⟨Cx,hCx⟩:∃C,C=(aP s.eO).toArray:=⟨_,rfl⟩;obtain⟨Ck,hCk⟩:∃C,C=(aP s.kept).toArray:=⟨_,rfl⟩;have HLx:Af (∀W,cR W I s->(Instr.loadAt 60 (.pointer (some ⟨I.b,6,none⟩))).run prog W= .ok (.agg Cx) W):=λW hW=>by rw[hCx];exact hW.loadXA
  have HLk:Af (∀W,cR W I s->(Instr.loadAt 60 (.pointer (some ⟨I.b,24,none⟩))).run prog W= .ok (.agg Ck) W):=λW hW=>by rw[hCk];exact hW.loadKA
  rw[<-hCx,<-hCk] at heq;obtain⟨B,hB⟩:∃B,B=decide (s.eO=s.kept):=⟨_,rfl⟩;rw[<-hB] at heq;have HB:=aa hB;clear hCx hCk hB;obtain⟨Wd,dJ⟩:∃W,W=w.drew:=⟨_,rfl⟩;have HBd:Af (ci w Wd):=zbi;refine wp_region_U [] (λW=>cR W I s) KJ ?_;rw[<-dJ] at hS HC|-;clear dJ;refine wpAnyU_row 14 [0,1,2,3] _ rfl KJ (λ_ _ _ _ _ h=>h) (.inr hS) ?_;iterate 4 ((first|apply tP rfl KJ rfl;(·intro W;go_simp;with_reducible rfl)|apply tL rfl KJ rfl;(·intro W hW;have y1:=hW.x1;go_simp;with_reducible rfl));try simp only[Act.put,Qb,Qc,Qd])
  refine tN ?_;refine uN 4 rfl ?_ ?_
  .kernel_rfl
  intro K hK;go_simp;go_at_call 34;refine HC.o.mono ?_;rintro e W1 ⟨v,rfl,o1,b1⟩;go_simp;have B1:=aa (Pd HBd.o b1);obtain⟨A,m,c,rfl⟩:=o1.bu;have hm:m=n:=by obtain⟨A2,c2,e2,-,-⟩:=(aB.sl o1).form;injection e2 with q1 q2 q3;rw[q2,Qq,hn]
  clear hn;subst hm;have hS1:=hS.on b1;refine hK.out _ _ (λ_ hW=>hW.on b1) ?_;clear hK K b1 o1 hS HC;try simp only[Act.put]
  by_cases h0:m=0
  .subst h0;refine wpAnyU_row 0 [5,6,7,8,9,10,11,12,13,14,15,16,17] _ rfl KJ (λ_ _ _ _ _ h=>h) (.inr hS1) ?_;(iterate 5 refine tX Fd ?_);(iterate 13 ((first|apply tP rfl KJ rfl;(·intro W;go_simp;with_reducible rfl)|apply tL rfl KJ rfl;(·intro W hW;first|exact exec_loadG (.pointer (some ⟨I.b,6,none⟩)) _ rfl (HLx.o W hW)|exact exec_loadG (.pointer (some ⟨I.b,24,none⟩)) _ rfl (HLk.o W hW)|(go_simp;with_reducible rfl)));try simp only[Act.put,Qb,Qc,Qd]));refine tN ?_;refine uD KJ ?_ _;go_wp2_with fail;go_meet;exact⟨by rw[<-Hn.o,HB.o];simp,B1.o⟩
  .have jr:((m:Int)==0)=false:=Xc Mx;refine wpAnyU_row 0 [5,6,7,8,9,10,11,12,13,14,15,16,17] _ rfl KJ (λ_ _ _ _ _ h=>h) (.inr hS1) ?_;(iterate 5 refine tX Fd ?_);(iterate 3 ((first|apply tP rfl KJ rfl;(·intro W;go_simp;with_reducible rfl)|apply tL rfl KJ rfl;(·intro W hW;go_simp;with_reducible rfl));try simp only[Act.put,Qb,Qc,Qd]));(iterate 9 (apply tS rfl KJ;try simp only[Act.put,Qb,Qc,Qd]));apply tL rfl KJ rfl
   .intro W hW;go_simp;with_reducible rfl
   (try simp only[Act.put,Qb,Qc,Qd]);refine tN ?_;refine uD KJ ?_ _;go_wp2_with fail;go_meet;exact⟨by rw[<-Hn.o,Xe h0];rfl,B1.o⟩
 .obtain⟨ht,hb⟩:=hcut.o;by_cases hc:s.t.changed.length=0/\s.eO=s.kept
  .rw[Xa hc.1,Xa hc.2,Qgy] at ht;have e:s.commit=(0,s):=(by unfold aX.commit;rw[Hp.o.live,Xd Fd,Xo hc]);have HE:=aa e;have HB:=aa hb;subst ht;clear hc e hb hcut;go_wp2_with fail;go_ret;rw[HE.o];exact⟨rfl,H.o.on HB.o,aG.aZ HB.o⟩
  .have e2:(decide (s.t.changed.length=0)&&decide (s.eO=s.kept))=false:=by
    by_cases h1:s.t.changed.length=0
    .rw[Xe λh2=>hc ⟨h1,h2⟩,Bool.and_false]
    .rw[Xe h1];rfl
   rw[e2] at ht;have HB:=aa hb;have Hc:=aa hc;subst ht;clear hc hb hcut e2;go_upto_region 6 with fail;obtain⟨pv,dv,ps,cc⟩:=(H.o.on HB.o).cells;have y3:wc.cell? ⟨I.b,3,none⟩=some pv:=cc.own.j3;have y4:wc.cell? ⟨I.b,4,none⟩=some dv:=cc.own.j4;have y1:=cc.x1;have y2:=cc.x2;clear cc;go_cut [4,5,6,7] from 6 to 7 (λv4 v5 v6 v7 W=>∃sb sp sd,v4= .pointer (some ⟨sb,0,none⟩)/\v7= .int .i64 0/\Af (CmSt w I s sb sp sd v5 v6 W))
   .obtain⟨Wd,dJ⟩:∃W,W=wc.drew:=⟨_,rfl⟩;have HBd:Af (ci wc Wd):=(by rw[dJ];exact below_drewN (Xj _ _) 1);have hS:Wd.cell? ⟨I.b,1,none⟩=some I.tb/\Wd.cell? ⟨I.b,2,none⟩=some I.pb/\Wd.cell? ⟨I.b,3,none⟩=some pv/\Wd.cell? ⟨I.b,4,none⟩=some dv:=(by rw[dJ];exact⟨y1,y2,y3,y4⟩);have Hd:=aa (H.o.on (Pd HB.o HBd.o));have Yd:=aa (Pd HB.o HBd.o);refine wp_region_U [12,19,20,21,22] (λW=>W.cell? ⟨I.b,1,none⟩=some I.tb/\W.cell? ⟨I.b,2,none⟩=some I.pb/\W.cell? ⟨I.b,3,none⟩=some pv/\W.cell? ⟨I.b,4,none⟩=some dv) KJ ?_;rw[<-dJ];clear dJ y1 y2 y3 y4;refine wpAnyU_row 11 [0,1,2,3,4,5,6,7,8,9,10,11] _ rfl KJ (λ_ _ _ _ _ h=>h) (.inr hS) ?_;(iterate 12 ((first|apply tP rfl rfl rfl;(·intro W;go_simp;with_reducible rfl)|apply tL rfl rfl rfl;(·rintro W ⟨y1,y2,y3,y4⟩;go_simp;with_reducible rfl));try simp only[Act.put,Qb,Qc,Qd]));refine tN ?_;refine uN2 12 18 rfl rfl ?_ ?_ ?_
    .kernel_rfl
    .intro K hK;go_simp;go_at_call 35;refine(Hd.o.place Hp.o hS.2.2.1 hS.2.2.2).mono ?_;rintro e W5 ⟨⟨sp,sd,wp,wd,rfl,n1,n2,n3,n4⟩,t5,p5,c5⟩;obtain⟨A1,m1,c1,rfl⟩:=ns_form3 n1.1;obtain⟨A2,m2,c2,rfl⟩:=ns_form3 n2.1;go_simp;refine hK.out _ _ (λh=>absurd h Fd) ?_;clear hK K;(try simp only[Act.put]);refine wpAnyU_row 5 [13,14,15,16,17] _ rfl KJ (λ_ _ _ _ _ h=>h) (.inl KJ) ?_;(iterate 13 refine tX Fd ?_);(iterate 5 (apply tP rfl rfl rfl;(·intro W;go_simp;with_reducible rfl);try simp only[Act.put,Qb,Qc,Qd]));refine tN ?_;refine uN 18 rfl ?_ ?_
     .kernel_rfl
     intro K hK;go_simp;have b6:=aF W5 (.cells #[(),()] 55);have s6:aq (W5.alloc (.cells #[(),()] 55)) W5 55 [(),()]:=ar _ _ _;refine hK.out _ _ (λ_ h=>keep4 b6 h) ?_;clear hK K;(try simp only[Act.put]);obtain⟨W6,jc⟩:∃W,W=W5.alloc (.cells #[(),()] 55):=⟨_,rfl⟩;obtain⟨sb,jq⟩:∃x,x=W5.heap.size:=⟨_,rfl⟩;have hw5:w.heap.size<=W5.heap.size:=Qh Yd.o.size c5.size;have l5:∀{v xs},US W5 Wd v xs->Ap (λx=>x=W5.heap.size) v:=λhv=>Sl.ap hv.1 λx hx e=>absurd hx Mx;have HF:Af (∀W7,W7=(W6.setCell ⟨sb,0,none⟩ (.slice A1 m1 c1)).setCell ⟨sb,1,none⟩ (.slice A2 m2 c2)->CmSt w I s sb (.slice A1 m1 c1) (.slice A2 m2 c2) wp wd W7):=λW7 he=>(by rw[jc] at he;rw[jq] at he|-;exact CmSt.Wc H.o Hp.o (((aG.aZ Yd.o).trans c5).trans (aG.aZ b6)) (t5.on b6) (p5.on b6) s6 hw5 Yd.o.size ⟨(n1.1.below b6).more b6.size,n1.2⟩ ⟨(n2.1.below b6).more b6.size,n2.2⟩ (n3.on b6) (n4.on b6) (l5 n1) (l5 n2) he);rw[<-jc,<-jq] at s6;rw[<-jc,<-jq];have z0:=s6.j0;have z1:=s6.j1;have f0:=s6.free 0;have f1:=s6.free 1;clear jc jq b6 s6 n1 n2 n3 n4 t5 p5 c5 hw5 l5 hS;refine uN 19 rfl ?_ ?_
     .kernel_rfl
     intro K hK;go_simp;refine hK.out _ _ (λh=>absurd h Fd) ?_;clear hK K;(try simp only[Act.put]);refine wpAnyU_row 0 [20,21,22] _ rfl KJ (λ_ _ _ _ _ h=>h) (.inl KJ) ?_;(iterate 20 refine tX Fd ?_);(iterate 3 (apply tP rfl rfl rfl;(·intro W;go_simp;with_reducible rfl);try simp only[Act.put,Qb,Qc,Qd]));exact zeW
    .intro K hK;go_simp;have b4:=aF Wd (.cells #[(),()] 55);have s4:aq (Wd.alloc (.cells #[(),()] 55)) Wd 55 [(),()]:=ar _ _ _;refine hK.out _ _ (λ_ h=>keep4 b4 h) ?_;clear hK K;(try simp only[Act.put]);obtain⟨W4,j7⟩:∃W,W=Wd.alloc (.cells #[(),()] 55):=⟨_,rfl⟩;obtain⟨sb,jq⟩:∃x,x=Wd.heap.size:=⟨_,rfl⟩;rw[<-j7] at s4 b4;have S4:Af (aq W4 sb 55 [(),()]):=(by rw[<-jq] at s4;exact s4);have kr:Af (sb<W4.heap.size/\Wd.heap.size<=W4.heap.size/\w.heap.size<=sb):=⟨S4.o.lt,b4.size,by rw[jq];exact Yd.o.size⟩;have B4:=aa b4;have hS4:=keep4 b4 hS;rw[<-j7,<-jq];clear j7 jq b4 s4 hS;refine uN 12 rfl ?_ ?_
     .kernel_rfl
     intro K hK;go_simp;go_at_call 35;refine((Hd.o.on B4.o).place Hp.o hS4.2.2.1 hS4.2.2.2).mono ?_;rintro e W5 ⟨⟨sp,sd,wp,wd,rfl,n1,n2,n3,n4⟩,t5,p5,c5⟩;obtain⟨A1,m1,c1,rfl⟩:=ns_form3 n1.1;obtain⟨A2,m2,c2,rfl⟩:=ns_form3 n2.1;go_simp;refine hK.out _ _ (λh=>absurd h Fd) ?_;clear hK K;(try simp only[Act.put]);refine wpAnyU_row 4 [13,14,15,16,17] _ rfl KJ (λ_ _ _ _ _ h=>h) (.inl KJ) ?_;(iterate 13 refine tX Fd ?_);(iterate 5 (apply tP rfl rfl rfl;(·intro W;go_simp;with_reducible rfl);try simp only[Act.put,Qb,Qc,Qd]));refine tN ?_;have q5:¬QS I.pb I.tb I.cb I.mb sb:=λe=>absurd (H.o.lt sb (IV sb e)) (XV.2 kr.q2);have s5:=S4.o.aL c5 q5;have l5:∀{v xs},US W5 W4 v xs->Ap (λx=>x=sb) v:=λhv=>newN_ap hv λx e=>(by rw[e];exact kr.p1);have HF:Af (∀W7,W7=(W5.setCell ⟨sb,0,none⟩ (.slice A1 m1 c1)).setCell ⟨sb,1,none⟩ (.slice A2 m2 c2)->CmSt w I s sb (.slice A1 m1 c1) (.slice A2 m2 c2) wp wd W7):=λW7 he=>CmSt.Wc H.o Hp.o (((aG.aZ Yd.o).trans (aG.aZ B4.o)).trans c5) t5 p5 s5 kr.q2 (Qh Yd.o.size kr.p2) n1 n2 n3 n4 (l5 n1) (l5 n2) he;have z0:=s5.j0;have z1:=s5.j1;have f0:=s5.free 0;have f1:=s5.free 1;clear s5 n1 n2 n3 n4 t5 p5 c5 l5 hS4 q5;refine uN 19 rfl ?_ ?_
     .kernel_rfl
     intro K hK;go_simp;refine hK.out _ _ (λh=>absurd h Fd) ?_;clear hK K;(try simp only[Act.put]);refine wpAnyU_row 0 [20,21,22] _ rfl KJ (λ_ _ _ _ _ h=>h) (.inl KJ) ?_;(iterate 20 refine tX Fd ?_);(iterate 3 (apply tP rfl rfl rfl;(·intro W;go_simp;with_reducible rfl);try simp only[Act.put,Qb,Qc,Qd]));exact zeW
   .obtain⟨sb,sp,sd,rfl,rfl,HS⟩:=hcut;obtain⟨A1,m1,c1,rfl⟩:=ns_form3 HS.o.spn;obtain⟨A2,m2,c2,rfl⟩:=ns_form3 HS.o.sdn;clear pv dv ps y1 y2 y3 y4;go_upto_region 9 with fail;go_cut [8] from 9 to 10 (λv8 W=>∃nb Wd,v8= .pointer (some ⟨nb,0,none⟩)/\Af (CmSt w I s sb (.slice A1 m1 c1) (.slice A2 m2 c2) u5 u6 Wd/\ci Wd W/\aq W nb 60 (aP (qE s.eO (plX s).au))/\Wd.heap.size<=nb))
    .obtain⟨Wd,dJ⟩:∃W,W=wc.drew:=⟨_,rfl⟩;have HBd:Af (ci wc Wd):=(by rw[dJ];exact below_drewN (Xj _ _) 1);have Hd:=aa (HS.o.on HBd.o);obtain⟨Cx,hCx⟩:∃C,C=(aP s.eO).toArray:=⟨_,rfl⟩;have HLx:Af (∀W,cR W I (plS s)->(Instr.loadAt 60 (.pointer (some ⟨I.b,6,none⟩))).run prog W= .ok (.agg Cx) W):=λW hW=>(by rw[hCx];exact hW.loadXA);obtain⟨Cr,hCr⟩:∃C,C=(aP (qE s.eO (plX s).au)).toArray:=⟨_,rfl⟩;have mn:Af (∀W,ci Wd W->Calls prog 36 #[.agg Cx,.slice A2 m2 c2] W (iF (.agg Cr) λw' =>ci W w')):=λW hW=>(by rw[hCx,hCr];have:=H.o.n0;exact vA W s.eO H.o.ok.sup _ (plX s).au (Hd.o.on hW).sdn (λd hd=>by have:=Hp.o.rg d (QD _ hd);omega) (by rw[show(plX s).au.length=s.au.length from Hp.o.pl.2];have:=H.o.abP;obtain⟨_,_,_,_,_,_,_,h⟩:=this;exact h));have AQ:bM (qE s.eO (plX s).au):=⟨Hp.o.sup.r8,Hp.o.sup.m8,H.o.ok.sup.g,Hp.o.sup.b,Hp.o.sup.r,Hp.o.sup.m⟩;have HCr:Af (Cr.size=18/\(prog.info? 60).map (·.size)=some Cr.size/\Cr.all (·.oneCell')=true):=(by have e:Cr.size=18:=(by rw[hCr,QW,bK AQ]);exact⟨e,by rw[e];exact ka,by rw[hCr];exact all_oneCell_toArray (jI _)⟩);have HF:Af (∀W7 nb,ci Wd W7->aq W7 nb 60 Cr.toList->Wd.heap.size<=nb->CmSt w I s sb (.slice A1 m1 c1) (.slice A2 m2 c2) u5 u6 Wd/\ci Wd W7/\aq W7 nb 60 (aP (qE s.eO (plX s).au))/\Wd.heap.size<=nb):=λW7 nb hb hx hn=>(by rw[hCr] at hx;exact⟨Hd.o,hb,hx,hn⟩);have hS:cR Wd I (plS s)/\aq Wd sb 55 [.slice A1 m1 c1,.slice A2 m2 c2]:=⟨Hd.o.base,Hd.o.sh⟩;refine wp_region_U [6,8] (λW=>cR W I (plS s)/\aq W sb 55 [.slice A1 m1 c1,.slice A2 m2 c2]) KJ ?_;rw[<-dJ];clear dJ hCx hCr AQ;refine wpAnyU_row 3 [0,1,2,3,4,5] _ rfl KJ (λ_ _ _ _ _ h=>h) (.inr hS) ?_;(iterate 6 ((first|apply tP rfl rfl rfl;(·intro W;go_simp;with_reducible rfl)|apply tL rfl rfl rfl;(·rintro W ⟨y1,y2⟩;first|exact exec_loadG (.pointer (some ⟨I.b,6,none⟩)) _ rfl (HLx.o W y1)|(have z1:=y2.j1;go_simp;with_reducible rfl)));try simp only[Act.put,Qb,Qc,Qd]));refine tN ?_;refine uN2 6 7 rfl rfl ?_ ?_ ?_
     .kernel_rfl
     .intro K hK;go_simp;go_at_call 36;refine(mn.o Wd (Xj _ _)).mono ?_;rintro e W5 ⟨rfl,b5⟩;go_simp;refine hK.out _ _ (λh=>absurd h Fd) ?_;clear hK K;(try simp only[Act.put]);refine uN 7 rfl ?_ ?_
      .kernel_rfl
      intro K hK;go_simp;refine hK.out _ _ (λ_ h=>⟨h.1.on (aF W5 _),h.2.on (aF W5 _)⟩) ?_;clear hK K;(try simp only[Act.put]);have n6:=nI W5 Cr.toList 60 (aP aV) HCr.p1;have s6:aq (W5.alloc (.cells (aP aV).toArray 60)) W5 60 (aP aV):=ar W5 _ _;have HTh:Af ((W5.alloc (.cells (aP aV).toArray 60)).there W5 0 Cr.size):=dX s6 (by rw[HCr.p1];decide);have HN:=aa (HF.o _ _ (Pd b5 n6.1) n6.2 b5.size);clear n6 s6 b5 hS;refine uN 8 rfl ?_ ?_
      .kernel_rfl
      intro K hK;refine wg W5 0 Cr rfl rfl HTh.o HCr.p2 HCr.q2 ?_;refine hK.out _ _ (λh=>absurd h Fd) ?_;clear hK K;(try simp only[Act.put]);exact zfC
     .intro K hK;go_simp;refine hK.out _ _ (λ_ h=>⟨h.1.on (aF Wd _),h.2.on (aF Wd _)⟩) ?_;clear hK K;(try simp only[Act.put]);have b4:ci Wd (Wd.alloc (.cells (aP aV).toArray 60)):=aF Wd _;have s4:aq (Wd.alloc (.cells (aP aV).toArray 60)) Wd 60 (aP aV):=ar Wd _ _;generalize j7:Wd.alloc _=W4;rw[show Wd.alloc (.cells (aP aV).toArray 60)=W4 from j7] at b4 s4;clear j7 hS;refine uN 6 rfl ?_ ?_
      .kernel_rfl
      intro K hK;go_simp;go_at_call 36;refine(mn.o W4 b4).mono ?_;rintro e W5 ⟨rfl,b5⟩;go_simp;refine hK.out _ _ (λh=>absurd h Fd) ?_;clear hK K;(try simp only[Act.put]);have s5:=s4.on b5;have HTh:Af (W5.there Wd 0 Cr.size):=dX s5 (by rw[HCr.p1];decide);have b45:=Pd b4 b5;have HN:=aa (HF.o _ _ (kF (Qg _) Cr.toList 0 _ b45) (s5.fill HCr.p1) (Qg _));clear b4 s4 b5 s5 b45;refine uN 8 rfl ?_ ?_
      .kernel_rfl
      intro K hK;refine wg Wd 0 Cr rfl rfl HTh.o HCr.p2 HCr.q2 ?_;refine hK.out _ _ (λh=>absurd h Fd) ?_;clear hK K;(try simp only[Act.put]);exact zfC
    .obtain⟨nb,Wd,rfl,HN⟩:=hcut;have hwg:IntKind.u64.wrap (s.eO.gen+1)=s.eO.gen+1:=(by have h1:=Hp.o.sup.g;have h2:0<=s.eO.gen+1/\s.eO.gen+1<18446744073709551616:=h1;unfold IntKind.wrap;simp[IntKind.signed,IntKind.bits];omega);have z0:wc.cell? nb=some (.int .u64 s.eO.gen):=HN.p3.j0;have f0:=HN.p3.free 0;have HW:Af (CmSt w I s sb (.slice A1 m1 c1) (.slice A2 m2 c2) u5 u6 (wc.setCell ⟨nb,0,none⟩ (.int .u64 (s.eO.gen+1)))/\aq (wc.setCell ⟨nb,0,none⟩ (.int .u64 (s.eO.gen+1))) nb 60 (aP (xN s))/\w.heap.size<=nb):=
      ⟨HN.p1.on (HN.p2.setCell (p:=⟨nb,0,none⟩) HN.q3 _),HN.p3.set 0 (.int .u64 (s.eO.gen+1)),Qh HN.p1.aL.size HN.q3⟩
     clear HS;go_upto_region 12 with fail;generalize hW8:wc.setCell ⟨nb,0,none⟩ (.int .u64 (s.eO.gen+1))=W8 at HW|-;clear hW8 z0 f0 hwg HN;obtain⟨pv,dv,ps,c8⟩:=HW.p1.base.cells;have x5:=c8.x5;have Ir:ps.length=s.fresh.length:=c8.kz.1;have hn8:=HW.p1.base.n0;have hf8:s.fresh.length=(plS s).t.len:=HW.p1.base.ok.fr;have fc:gJ (jf ps)=(frB s).map λb:Nat=>(b:Int):=(by unfold gJ frB;rw[Cr,Ir];congr 1;refine Qhh λb _=> ?_;rw[Cs,Option.isSome_map,c8.kz.isS];rfl);have HK:=aa (keysF_any W8 I.fb);obtain⟨W9,ED⟩:∃y,y=W8.alloc (.cells #[.map (some I.fb)] 56):=⟨_,rfl⟩;obtain⟨Bx,j8⟩:∃y,y=W8.heap.size:=⟨_,rfl⟩;rw[<-ED,<-j8] at HK;have B9:Af (ci W8 W9):=(by rw[ED];exact aF _ _);have K9:Boxed W9 Bx 56 (.map (some I.fb)):=(by rw[ED,j8];exact Boxed.new W8 _ _);have hlen:∀pre:List Int,pre.Nodup->(∀x∈pre,(du (jf ps) x).isSome=true)->pre.length<=5000:=λpre h1 h2=>Qh (RE _ _ h1 h2) (by rw[Cr];omega)
     have F9:=c8.jg.on B9.o;have um:=aa (FC W9 102 Bx (du (jf ps)) _ trivial (enters_of func102 KJ rfl) (iter_keysF I.fb (nS (jf ps)) Bx (du (jf ps))) K9.lt
      (λW hW=>⟨F9.on hW,(hW.cell (p:=⟨Bx,0,none⟩) K9.lt).trans K9.cell⟩) (λpre x hx=>hlen pre hx.2.1 hx.2.2) (λpre hd=>hlen pre hd.1 (λx hx=>(hd.2 x).1 hx)))
     have Hps:=aa fc;have Hfl:Af (ps.length=s.fresh.length/\s.fresh.length<=4096):=⟨Ir,Mx⟩;clear hlen K9 ED j8 F9 fc Ir hn8 hf8 c8;go_upto_region 13 with(first
      |(go_at_call 38;refine HK.o.mono ?_;rintro e W2 ⟨rfl,rfl⟩)
      |(go_at_call 37;refine um.o.mono ?_;rintro e W3 ⟨v,pre,rfl,hd,ho,hb⟩;have D3:=aa hd;have O3:=aa ho;have B3:=aa hb;obtain⟨Av,nv,cv,rfl⟩:=ho.bu;clear hd ho hb))
     have hr:=O3.o;rw[PJ _ _ D3.o,Hps.o] at hr;have Tz:nv=(frB s).length:=(by obtain⟨A2,c2,e2,-,-⟩:=(aB.sl hr).form;injection e2 with q1 q2 q3;rw[q2,Qq]);have Hn:Af (nv=(frB s).length/\nv<=4096):=⟨Tz,by rw[Tz];exact Qh (Qby _ _) (by rw[Qbk];exact Hfl.q1)⟩;have j5:(nv:Int)<=4096:=wl;have tI:Af (Ns W3 W3 .i64 (.slice Av nv cv) ((frB s).map λb:Nat=>(b:Int))):=aB.sl hr;have B83:=aa (Pd B9.o B3.o);have S3:=aa (HW.p1.on B83.o);have N3:=aa (HW.p2.on B83.o);have Hnb:=aa HW.q2;clear hr Tz O3 D3 um HK Hps Hfl x5 HW B9 B3 B83;obtain⟨pv3,dv3,ps3,c3⟩:=S3.o.base.cells;have HC3:=aa c3;clear c3;go_loopw [9,77] (λv9 i wr=>∃(k:Nat) (l:List (Va×ri)),i= .int .i64 k/\Af (k<=nv/\eB wr W3 (DS I.d I.pl) I.d v9 l/\l.map Prod.snd=((frB s).take k).map (stF s)/\ci W3 wr)) (λ_ i _=>nv - (intOf i).toNat)
     .exact⟨0,[],rfl,Qp _,Lb _ _ _ _,rfl,Xj _ _⟩
     .obtain⟨k,l,rfl,HR⟩:=hrel;obtain⟨A0,n0,c0,rfl⟩:=HR.p2.form;by_cases aJ:k<nv
      .have i0:(0:Int)<=k:=(by omega);have i1:(k:Int)<nv:=Mx;have bQ:k<(frB s).length:=wl;obtain⟨b,hb⟩:∃b,(frB s)[k]? =some b:=⟨_,Qf bQ⟩;obtain⟨yZ,sq⟩:=Qia.1 (Qi hb);obtain⟨data,Nl⟩:=Option.isSome_iff_exists.1 sq;have pT:=tI.o.below HR.q3;obtain⟨g,o,c2,hv,-,-,hg,hc⟩:=pT.cells (by rw[Qq];omega);obtain rfl:Av=some ⟨g,o,none⟩:=No;have y0:=hc k (by rw[Qq];exact bQ);rw[Qe,Qt,hb] at y0;have y0:wr.cell? ⟨g,o+k,none⟩=some (.int .i64 b):=y0;obtain⟨Wd,dJ⟩:∃W,W=wr.drew:=⟨_,rfl⟩;have Bd:Af (ci wr Wd):=zbi;have B3d:=aa (Pd HR.q3 Bd.o);have SB:=S3.o.on B3d.o;have cc:=HC3.o.aL (S:=λ_=>False) (aG.aZ B3d.o) (λ_ e=>e.elim) id id;obtain⟨gd,cd,fc,jW,gZ,hld⟩:=HC3.o.kz.get (b:=b) Nl;have iV:Bs Wd Wd (sw (some (gd,cd))) data:=⟨(jW.1.below B3d.o).more B3d.o.size,jW.2⟩;have AU:gd<W3.heap.size:=(by obtain⟨b',o',c',mQ,-,-,SE⟩:=jW.1.row (by rw[hld];decide);injection mQ with q1;injection q1 with q2;injection q2 with q3;rw[q3];exact SE.1);have fg:b<100000:=(by have h1:=Zm.1 yZ;have h2:s.fresh.length=(plS s).t.len:=SB.base.ok.fr;have:=SB.base.n0;omega);have SG:=cc.jg.at (x:=(b:Int)) (mo Mx);rw[gN,Cs,fc] at SG;have hS:Wd.cell? I.b=some I.d/\Wd.cell? ⟨I.b,5,none⟩=some (.map (some I.fb))/\(Instr.lookup 56 (.map (some I.fb)) (.int .i64 b) false).run prog Wd= .ok (.slice (some ⟨gd,0,none⟩) 128 cd) Wd:=⟨cc.x0,cc.x5,SG⟩;have HL:=aa (HR.p2.on Bd.o);have hlS:∀x,Iz (DS I.d I.pl) (Value.slice A0 n0 c0).ownBlock x->x<Wd.heap.size:=eB.OC HL.o (λx hx=>SB.base.lt x VX);have pt:Ap (Iz (DS I.d I.pl) (Value.slice A0 n0 c0).ownBlock) (.slice (some ⟨gd,0,none⟩) 128 cd):=jD λe=>by
        obtain e|e:=e
        .exact gZ (by unfold BS;obtain e|e:=e<;>simp[e])
        .exact XI _ (Qn AU (Xr HL.p1 gd e).1)
       have JU:=aa (nF Wd (Iz (DS I.d I.pl) (Value.slice A0 n0 c0).ownBlock) I.d b (.slice (some ⟨gd,0,none⟩) 128 cd) data iV pt hlS);have Hll:Af (l.length<=5000):=(by have:=XF List.length HR.p3;rw[Qq,Qq,Qu] at this;show l.length<=5000;have:=Hn.o;omega);have tH:Af (((frB s).take (k+1)).map (stF s)=((frB s).take k).map (stF s)++[.wr b data]):=(by show _=_;rw[aA _ _ _ hb,QL];unfold stF;rw[List.map_singleton,Nl];rfl);have fp:wrap64 ((k:Int)+1)=(k:Int)+1:=vW;have eu:=aa fp;have bj:=aa aJ;have HRl:=aa HR.p3;clear aJ bQ hb yZ sq Nl pT hv hg hc SB cc fc iV jW AU gZ hld fg SG hlS pt HR;go_upto_region 15 with fail;refine wp_region_U [12,13,14,15] (λW=>W.cell? I.b=some I.d/\W.cell? ⟨I.b,5,none⟩=some (.map (some I.fb))/\(Instr.lookup 56 (.map (some I.fb)) (.int .i64 b) false).run prog W= .ok (.slice (some ⟨gd,0,none⟩) 128 cd) W) KJ ?_;rw[<-dJ];clear dJ y0;refine wpAnyU_row 4 [0,1,2,3,4,5,6,7,8,9,10,11] _ rfl KJ (λ_ _ _ _ _ h=>h) (.inr hS) ?_;iterate 12 ((first|apply tP rfl rfl rfl;(·intro W;go_simp;with_reducible rfl)|apply tL rfl rfl rfl;(·rintro W ⟨y1,y2,y3⟩;go_simp;with_reducible rfl));try simp only[Act.put,Qb,Qc,Qd])
       refine tN ?_;refine wpAnyU_seq [12,13,14,15] _ rfl KJ KJ ?_;show wpList _ _ _ [_,_,_,_] _ _;go_wp2_with(first
        |(go_at_call 39;refine JU.o.mono ?_;rintro e W4 ⟨fv,rfl,s4,b4⟩;have S4:=aa s4;have B4:=aa b4;have K4:=aa (Jy HL.o S4.o B4.o);clear s4 b4)
        |(at_builtin;(with_reducible refine wl_app_st (os:= .tmp 81) (ox:= .tmp 94) (base:=W3.heap.size) (m:=[(fv,.wr b data)]) K4.p1 K4.p2 K4.q2 ?_ ?_ ?_ ?_ ?_);(·have:=Hll.o;simp;omega);(·exact Qh B3d.o.size (Qh B4.o.size Sv));(·rfl);(·rfl);intro v5 W5 o5 g5;have O5:=aa o5;have G5:=aa g5;clear o5 g5))
       go_roundw
       .refine⟨k+1,_,xh,bj.o,O5.o,?_,((Pd B3d.o B4.o).alloc (Qh B3d.o.size B4.o.size) _).grown G5.o (Qh B3d.o.size (Qh B4.o.size Sv)) (λj e=>(Xr HL.p1 j e).1)⟩;rw[tH.o,QL,HRl.o];rfl
       .exact wn
      .have cH:k=nv:=(by have:=HR.p1;omega);have e1:(frB s).take k=frB s:=Qj wl;have i1:¬(k:Int)<nv:=Mx;have HL:=aa HR.p2;have HRl:Af (l.map Prod.snd=(frB s).map (stF s)):=(by have:=HR.p3;rw[e1] at this;exact this);have Bwr:=aa HR.q3;clear cH e1 aJ HR;obtain⟨CN,hCN⟩:∃C,C=(aP (xN s)).toArray:=⟨_,rfl⟩;have hld:(Instr.loadAt 60 nb).run prog wr= .ok (.agg CN) wr:=(by rw[hCN];exact eZ (bK Hp.o.sup) (λj v hj=>(N3.o.on Bwr.o).cell hj));have HEx:Af (∀W,Calls prog 40 #[.agg CN] W (Made W (J7 (xN s)))):=λW=>by rw[hCN];exact RW W (xN s) Hp.o.sup Hp.o.right
       have HxB:=aa (GK (s:=xN s) Hp.o.sup);clear hCN;go_upto_region 18 with(first
        |((refine wl_load _ _ ?_ hld ?_);(·rfl);go_frame)
        |(go_at_call 40;refine(HEx.o _).mono ?_;rintro e W5 ⟨gx,pZ,rfl,o5,b5⟩;have O5:=aa o5;have B5:=aa b5;have Gx:=aa pZ;clear o5 b5 pZ))
       go_cut [9] from 102 to 140 (λv9 W=>∃l',Af (eB W W3 (DS I.d I.pl) I.d v9 l'/\l'.map Prod.snd=cmSt s/\l'.length<=9000/\ci W3 W))
       .obtain⟨Wd,dJ⟩:∃W,W=W5.drew:=⟨_,rfl⟩;have B5d:Af (ci wr Wd):=(by rw[dJ];exact Pd B5.o (below_drewN (Xj _ _) 1));have B3d:=aa (Pd Bwr.o B5d.o);have SB:=aa (S3.o.on B3d.o);have HL5:=aa (HL.o.on B5d.o);have Od:Af (dn Wd gx (J7 (xN s))):=(by rw[dJ];exact O5.o);have x0:=SB.o.base.x0;have x1:=SB.o.base.x1;have x42:=SB.o.base.x42;have Ev:IntKind.i64.wrap (1 - (s.slot:Int))=((1 - s.slot:Nat):Int):=zak;have jU:=H.o.n0;obtain⟨qp,qd⟩:=Hp.o.pl;have qpp:(plX s).pp.length=(plX s).ag.length:=(by rw[show(plX s).ag.length=s.ag.length from qp];exact Hp.o.pp.1);have qpd:(plX s).pd.length=(plX s).au.length:=(by rw[show(plX s).au.length=s.au.length from qd];exact Hp.o.pp.2);obtain⟨_,_,_,_,_,_,hpl100,hdl100⟩:=H.o.abP;have tz:((plX s).ag.length:Int)=aR s.t.len:=(by rw[show(plX s).ag.length=s.ag.length from qp];exact H.o.ok.pg);have hdg:((plX s).au.length:Int)=aR (plX s).ag.length:=(by rw[show(plX s).au.length=s.au.length from qd,show(plX s).ag.length=s.ag.length from qp];exact H.o.ok.dg);have hlS:∀x,Iz (DS I.d I.pl) (Value.slice A0 n0 c0).ownBlock x->x<Wd.heap.size:=eB.OC HL5.o (λx hx=>SB.o.base.lt x VX);have Hpgl:Af ((tR (plX s).t (plX s).ag (plX s).au (gG (plX s).pp) (gG (plX s).pd)).length<=200):=(by show _<=_;unfold tR;rw[Qo,Qq,Qq];exact Qcf (Qh (oo _) zaI) (Qh (oo _) zaJ));have Hll:Af (l.length<=4096):=by have h1:=XF List.length HRl.o;rw[Qq,Qq,<-Hn.p1] at h1;show _<=_;rw[h1];exact Hn.q1
        have EJ:=aa (KZ Wd (Iz (DS I.d I.pl) (Value.slice A0 n0 c0).ownBlock) I.d I.tb I.cb I.mb (plX s).t SB.o.base.fh hlS (.slice A1 m1 c1) (.slice A2 m2 c2) u5 u6 (plX s).ag (plX s).au (gG (plX s).pp) (gG (plX s).pd) SB.o.spn SB.o.sdn SB.o.wp SB.o.wd
         (by rw[show(plX s).ag.length=s.ag.length from qp];exact hpl100) (by rw[show(plX s).au.length=s.au.length from qd];exact hdl100) (Qh (oo _) zaI) (Qh (oo _) zaJ)
         (λx hx=>by have:=Hp.o.rg x hx;omega)
         (λi hi=>by have h1:=xK hi;rw[qpp] at h1;refine⟨h1,?_⟩;rw[show(plX s).t.len=s.t.len from Hp.o.len];unfold aR at tz;split at tz<;>omega)
         (λi hi=>by have h1:=xK hi;rw[qpd] at h1;refine⟨h1,?_⟩;unfold aR at hdg;split at hdg<;>omega))
        have Ta:Af (I.b<Wd.heap.size/\sb<Wd.heap.size/\I.b<W3.heap.size/\sb<W3.heap.size):=⟨SB.o.base.lt _ (.inl rfl),SB.o.sh.lt,S3.o.base.lt _ (.inl rfl),S3.o.sh.lt⟩;clear jU qp qd qpp qpd hpl100 hdl100 tz hdg hlS;have hS:Wd.cell? I.b=some I.d/\Wd.cell? ⟨I.b,1,none⟩=some I.tb/\Wd.cell? ⟨I.b,42,none⟩=some (.int .i64 s.slot)/\Wd.cell? sb=some (.slice A1 m1 c1)/\Wd.cell? ⟨sb,1,none⟩=some (.slice A2 m2 c2):=⟨x0,x1,x42,SB.o.sh.j0,SB.o.sh.j1⟩;refine wp_region_U [37,38,39] (λW=>W.cell? I.b=some I.d/\W.cell? ⟨I.b,1,none⟩=some I.tb/\W.cell? ⟨I.b,42,none⟩=some (.int .i64 s.slot)/\W.cell? sb=some (.slice A1 m1 c1)/\W.cell? ⟨sb,1,none⟩=some (.slice A2 m2 c2)) KJ ?_;rw[<-dJ];clear dJ x0 x1 x42 hld;refine wpAnyU_row 6 [0,1,2,3,4,5,6,7,8,9,10,11,14,15,16,17,18,19,20,21,22,23,24,25,26,27,28,29,31,32,33,34,35,36] _ rfl KJ (λ_ _ _ _ _ h=>h) (.inr hS) ?_;(iterate 37 ((first|(refine tX Fd ?_)|apply tP rfl rfl rfl;(·intro W;go_simp;with_reducible rfl)|apply tL rfl rfl rfl;(·rintro W ⟨y1,y2,y3,y4,y5⟩;go_simp;with_reducible rfl));try simp only[Act.put,Qb,Qc,Qd]));refine tN ?_;refine uN 12 rfl ?_ ?_
        .kernel_rfl
        intro K hK;go_simp;go_at_call 41;refine EJ.o.mono ?_;rintro e uh ⟨vp,lp,rfl,op,Wt,wC⟩;obtain⟨Ap,np,cp,rfl⟩:=op.form;go_simp;refine hK.out _ _ (λ_ h=>keep5 (wC.block _ Ta.p1) (wC.block _ Ta.p2) h) ?_;clear hK K;(try simp only[Act.put]);have ag7:=aa (HL5.o.on wC);have QP1:=aa (Sl.bU op.1);have QP2:Af (∀p∈lp,cB uh (Iz (DS I.d I.pl) (Value.slice A0 n0 c0).ownBlock) I.d p.1 p.2):=λp hp=>(op.2 p hp).set λx _ hT=> .inl hT;have HLp:=aa Wt;have Hlp:Af (lp.length<=200):=(by have h1:=XF List.length Wt;rw[Qq] at h1;show _<=_;rw[h1];exact Hpgl.o);have oU:=aa wC;clear op Wt wC EJ hS;refine uN 13 rfl ?_ ?_
        .kernel_rfl
        intro K hK;refine step_app_st (os:= .tmp 102) (ox:= .tmp 114) (base:=W3.heap.size) ag7.o QP1.o QP2.o ?_ ?_ rfl rfl ?_
        .exact Qh (Qcf Hll.o Hlp.o) Fd
        .exact Qh B3d.o.size oU.o.size
        intro v11 MP Y9 g11;obtain⟨A11,n11,c11,rfl⟩:=Y9.form;have dL:∀x,x<W3.heap.size->some x≠(Value.slice A0 n0 c0).ownBlock:=λx hx e=>XI _ (Qn hx (Xr ag7.p1 x e.symm).1);refine hK.out _ _ (λ_ h=>keep5 (g11.block _ (Qn Ta.p1 oU.o.size) (dL _ Ta.p3)) (g11.block _ (Qn Ta.p2 oU.o.size) (dL _ Ta.q3)) h) ?_;clear hK K;(try simp only[Act.put,Qb,Qc,Qd]);have hx9:dn MP gx (J7 (xN s)):=(Od.o.aQ (oU.o.block gx Od.o.lt)).aQ (g11.block gx (Qn Od.o.lt oU.o.size) (λe=>dn.not_row (Od.o.aQ (w' :=uh) (oU.o.block gx Od.o.lt)) Fd ag7.p1 e.symm));have hlt11:∀x,DS I.d I.pl x->x<W3.heap.size:=λx hx=>S3.o.base.lt x VX
        have tl:=aa (nF MP (Iz (DS I.d I.pl) (Value.slice A11 n11 c11).ownBlock) I.d (1 - s.slot) (.slice (some ⟨gx,0,none⟩) 128 128) (J7 (xN s)) (hx9.whole HxB.p1 HxB.q1) (jD λe=>by
         obtain e|e:=e
         .exact XI _ (Qn (hlt11 gx e) (Qh Bwr.o.size Gx.o))
         .exact dn.not_row hx9 Fd Y9.1 e) (eB.OC Y9 (λx hx=>Qn (hlt11 x hx) (Qh B3d.o.size (Qh oU.o.size g11.size)))))
        have O11:=aa Y9;have G11:=aa g11;clear Y9 g11 dL hx9 hlt11;refine uN 30 rfl ?_ ?_
        .kernel_rfl
        intro K hK;go_simp;refine tl.o.mono ?_;rintro e Bg ⟨fvx,rfl,s12,Be⟩;go_simp;refine hK.out _ _ (λ_ h=>keep5 (Be.block _ (Qn Ta.p1 (Qh oU.o.size G11.o.size))) (Be.block _ (Qn Ta.p2 (Qh oU.o.size G11.o.size))) h) ?_;clear hK K;(try simp only[Act.put,Qb,Qc,Qd]);have Ir:cB Bg (Iz (DS I.d I.pl) (Value.slice A11 n11 c11).ownBlock) I.d (.func (.func 42) #[I.d] #[]) .fl:=rfl;have T13:=aa (FF Ir s12 Ir);have O13:=aa ((O11.o.on Be).on (aF Bg (.cells #[.func (.func 42) #[I.d] #[],fvx,.func (.func 42) #[I.d] #[]] 97)));have Ur:=aa Be;clear s12 Be Ir tl;refine wpAnyU_seq [37,38,39] _ rfl KJ KJ ?_;show wpList _ _ _ [_,_,_] _ _;go_wp2_with(at_builtin;(with_reducible refine wl_app_st (os:= .tmp 115) (ox:= .tmp 139) (base:=W3.heap.size) O13.o T13.p1 T13.q1 ?_ ?_ ?_ ?_ ?_);(·rw[Qo];exact Qh (Qcf (Qcf Hll.o Hlp.o) (Qg 3)) Fd);(·exact Qh B3d.o.size (Qh oU.o.size (Qh G11.o.size (Qh Ur.o.size Sv))));(·rfl);(·rfl);intro v14 W14 o14 g14;have TZ:=aa o14;have G14:=aa g14;clear o14 g14);go_meet;have hl3:(l++lp++[(Value.func (.func 42) #[I.d] #[],ri.fl),(fvx,.wr (1 - s.slot) (J7 (xN s))),(Value.func (.func 42) #[I.d] #[],ri.fl)]).map Prod.snd=cmSt s:=(by rw[QL,QL,HRl.o,HLp.o];rfl);refine⟨_,TZ.o,hl3,?_,?_⟩
        .rw[Qo,Qo];exact Qh (Qcf (Qcf Hll.o Hlp.o) (Qg 3)) Fd
        .have L10:=Pd B3d.o oU.o;have L11:=L10.grown G11.o L10.size (λj e=>(Xr ag7.p1 j e).1);have L13:=(Pd L11 Ur.o).trans ((aF Bg (.cells #[.func (.func 42) #[I.d] #[],fvx,.func (.func 42) #[I.d] #[]] 97)).mono (Qh L11.size Ur.o.size));exact L13.grown G14.o L13.size (λj e=>(Xr O13.p1 j e).1)
       .obtain⟨l',HL'⟩:=hcut;have jU:=H.o.n0;have hBlt:Af (∀x,BS I x->x<w.heap.size):=H.o.lt;have SB:=aa (S3.o.on HL'.q3);have NB:=aa (N3.o.on HL'.q3);have an8:=aa (cm_all SB.o.base H.o.ok Hp.o jU.1 (λx hx=>S3.o.base.lt x hx) HL'.p1 HL'.p2 HL'.p3);obtain⟨A9,n9,c9,e9⟩:=HL'.p1.form;rw[e9] at an8|-;clear e9 jU;go_upto_region 24 with(first
         |(go_at_call 43;refine an8.o.mono ?_;rintro e TX ⟨rfl,h15,c15⟩;have H15:=aa h15;have C15:=aa c15;have HKp:=aa (keepT_any TX I.tb I.cb I.mb (plX s).t h15.fh Hp.o.keep);have x1:=h15.x1;clear h15 c15)
         |(go_at_call 44;refine HKp.o.mono ?_;rintro e W16 ⟨⟨uk,rfl⟩,t16,c16⟩;have H16:=aa (H15.o.Oz c16 t16 rfl);have C16:=aa c16;clear t16 c16))
        have y5:=H16.o.x5;obtain⟨pv6,dv6,ps6,c6⟩:=H16.o.cells;have Mf:=aa c6.jg;clear c6 x1 an8 HKp;go_upto_region 25 with(refine wl_clear Ud rfl Mf.o rfl ?_;intro W17 m17 g17;have H17:=aa (H16.o.clearF g17 m17);have G17:=aa g17;clear m17 g17);have C17:Af (aG (BS I) wc W17):=((C15.o.mono λx _ hx=>VX).trans (C16.o.mono λx _ e=>OS x e)).trans (aG.dH G17.o λx _ e=>by unfold BS;rw[<-Qr e];simp);have nsb:¬BS I sb:=λe=>XI _ (Qn (hBlt.o sb e) SB.o.sb);have nnb:¬BS I nb:=λe=>XI _ (Qn (hBlt.o nb e) Hnb.o);obtain⟨Wd,dJ⟩:∃W,W=W17.drew:=⟨_,rfl⟩;have Bd:ci W17 Wd:=zbi;have Cd:Af (aG (BS I) wc Wd):=C17.o.trans (aG.aZ Bd);have Hd:=aa (H17.o.on Bd);have sd1:=SB.o.sh.aL Cd.o nsb;have nd1:=NB.o.aL Cd.o nnb;have HNs:Af (Ns Wd Wd .i64 (.slice A1 m1 c1) (plX s).ag/\Ns Wd Wd .i64 (.slice A2 m2 c2) (plX s).au):=⟨(Sl.aL SB.o.spn Cd.o (Qg _) SB.o.spa).more Cd.o.size,(Sl.aL SB.o.sdn Cd.o (Qg _) SB.o.sda).more Cd.o.size⟩;obtain⟨pv,dv,ps,cc⟩:=Hd.o.cells;have bO:aq Wd I.b 62 (ni I pv dv s.eO s.kept s.slot s.broken):=cc.own;obtain⟨CN,hCN⟩:∃C,C=(aP (xN s)).toArray:=⟨_,rfl⟩;have HLn:Af (∀W,aq W nb 60 (aP (xN s))->(Instr.loadAt 60 nb).run prog W= .ok (.agg CN) W):=λW hW=>(by rw[hCN];exact eZ (bK Hp.o.sup) (λj v hj=>hW.cell hj));have HCN:Af (CN.size=18/\(prog.info? 60).map (·.size)=some CN.size/\CN.all (·.oneCell')=true/\CN.toList=aP (xN s)):=(by have e:CN.size=18:=(by rw[hCN,QW];exact bK Hp.o.sup);exact⟨e,by rw[e];exact ka,by rw[hCN];exact all_oneCell_toArray (jI _),by rw[hCN]⟩);have Ev:IntKind.i64.wrap (1 - (s.slot:Int))=((1 - s.slot:Nat):Int):=zak;have hxN:Af (bM (xN s)):=Hp.o.sup;have hsu:=aa H.o.ok.sup;have hke:=aa H.o.ok.kep;have hS:(∃pv dv x,bM x/\aq Wd I.b 62 (ni I pv dv x s.kept s.slot s.broken))/\aq Wd sb 55 [.slice A1 m1 c1,.slice A2 m2 c2]/\aq Wd nb 60 (aP (xN s)):=⟨⟨pv,dv,s.eO,hsu.o,bO⟩,sd1,nd1⟩;have fq:Af (sb≠I.b/\nb≠I.b):=⟨λe=>nsb (.inl e),λe=>nnb (.inl e)⟩;have z3:Wd.cell? ⟨I.b,3,none⟩=some pv:=bO.cell rfl;have z4:Wd.cell? ⟨I.b,4,none⟩=some dv:=bO.cell rfl;have f3:=bO.free 3;have f4:=bO.free 4;have HBb:=aa bO;refine wp_region_U [18,19,20,21,22,23] (λW=>(∃pv dv x,bM x/\aq W I.b 62 (ni I pv dv x s.kept s.slot s.broken))/\aq W sb 55 [.slice A1 m1 c1,.slice A2 m2 c2]/\aq W nb 60 (aP (xN s))) KJ ?_;rw[<-dJ];clear dJ Bd nsb nnb sd1 nd1 cc bO hCN y5;refine wpAnyU_row 10 [0,1,2,3,4,5,6,7,8,9,10,11,12,13] _ rfl KJ (λ_ _ _ _ _ h=>h) (.inr hS) ?_;(iterate 14 ((first|apply tP rfl rfl rfl;(·intro W;go_simp;with_reducible rfl)|apply tL rfl rfl rfl;(·rintro W ⟨⟨pv',dv',x',We,y1⟩,y2,y3⟩;first|exact exec_loadG nb _ rfl (HLn.o W y3)|(have z0:=y2.j0;have z1:=y2.j1;have z42:=y1.cell (baseC_slot We hke.o);go_simp;with_reducible rfl)));try simp only[Act.put,Qb,Qc,Qd]));refine tN ?_;refine uN 14 rfl ?_ ?_
        .kernel_rfl
        intro K hK;go_simp;have yZ:aq ((Wd.setCell ⟨I.b,3,none⟩ (.slice A1 m1 c1)).setCell ⟨I.b,4,none⟩ (.slice A2 m2 c2)) I.b 62 (ni I (.slice A1 m1 c1) (.slice A2 m2 c2) s.eO s.kept s.slot s.broken):=(HBb.o.set 3 (.slice A1 m1 c1)).set 4 (.slice A2 m2 c2);refine hK.out _ _ (λ_ h=>⟨⟨_,_,_,hsu.o,yZ⟩,(h.2.1.az (p:=⟨I.b,3,none⟩) fq.p1 _).az (p:=⟨I.b,4,none⟩) fq.p1 _,(h.2.2.az (p:=⟨I.b,3,none⟩) fq.q1 _).az (p:=⟨I.b,4,none⟩) fq.q1 _⟩) ?_;clear hK K hS;(try simp only[Act.put,Qb,Qc,Qd]);have c1w:=((aG.refl (λx=>x=I.b) Wd).setCell (p:=⟨I.b,3,none⟩) (λ_=>rfl) (.slice A1 m1 c1)).setCell (p:=⟨I.b,4,none⟩) (λ_=>rfl) (.slice A2 m2 c2);obtain⟨We,hWe⟩:∃W,W=(Wd.setCell ⟨I.b,3,none⟩ (.slice A1 m1 c1)).setCell ⟨I.b,4,none⟩ (.slice A2 m2 c2):=⟨_,rfl⟩;rw[<-hWe] at yZ c1w|-;clear hWe z3 z4 f3 f4;refine wpAnyU_row 7 [15,16] _ rfl KJ (λ_ _ _ _ _ h=>h) (.inl KJ) ?_;(iterate 15 refine tX Fd ?_);(iterate 2 (apply tP rfl rfl rfl;(·intro W;go_simp;with_reducible rfl);try simp only[Act.put,Qb,Qc,Qd]));refine tN ?_;refine uN 17 rfl ?_ ?_
        .kernel_rfl
        intro K hK;have th1:We.there I.b 6 CN.size:=there_blkO yZ (by rw[HCN.p1,baseC_len hsu.o hke.o];decide);refine wg I.b 6 CN rfl rfl th1 HCN.p2 HCN.p3 ?_;have sq:aq (We.setCells I.b 6 CN.toList) I.b 62 (ni I (.slice A1 m1 c1) (.slice A2 m2 c2) (xN s) s.kept s.slot s.broken):=(by have h1:=mh (aP (xN s)) 6 We _ yZ (by rw[baseC_len hsu.o hke.o,bK hxN.o];decide);rw[HCN.q3];rwa[baseC_sup2 hsu.o hke.o hxN.o] at h1);have c2w:aG (λx=>x=I.b) We (We.setCells I.b 6 CN.toList):=cN (S:=λx=>x=I.b) rfl _ _ _ (aG.refl _ _);refine hK.out _ _ (λ_ h=>⟨⟨_,_,_,hxN.o,sq⟩,h.2.1.aL c2w fq.p1,h.2.2.aL c2w fq.q1⟩) ?_;clear hK K th1;(try simp only[Act.put,Qb,Qc,Qd]);have NB:=c1w.trans c2w;obtain⟨Wf,hWf⟩:∃W,W=We.setCells I.b 6 CN.toList:=⟨_,rfl⟩;rw[<-hWf] at sq NB|-;clear hWf c1w c2w yZ;have th2:Wf.there I.b 24 CN.size:=there_blkO sq (by rw[HCN.p1,baseC_len hxN.o hke.o];decide);have jW:aq (Wf.setCells I.b 24 CN.toList) I.b 62 (ni I (.slice A1 m1 c1) (.slice A2 m2 c2) (xN s) (xN s) s.slot s.broken):=(by have h1:=mh (aP (xN s)) 24 Wf _ sq (by rw[baseC_len hxN.o hke.o,bK hxN.o];decide);rw[HCN.q3];rwa[baseC_kep2 hxN.o hke.o hxN.o] at h1);have c3:aG (λx=>x=I.b) Wd (Wf.setCells I.b 24 CN.toList):=cN (S:=λx=>x=I.b) rfl _ _ _ NB;have z42:(Wf.setCells I.b 24 CN.toList).cell? ⟨I.b,42,none⟩=some (.int .i64 s.slot):=jW.cell (baseC_slot hxN.o hxN.o);have f42:=jW.free 42;have sm:Af (aq ((Wf.setCells I.b 24 CN.toList).setCell ⟨I.b,42,none⟩ (.int .i64 (1 - s.slot:Nat))) I.b 62 (ni I (.slice A1 m1 c1) (.slice A2 m2 c2) (xN s) (xN s) (1 - s.slot) s.broken)):=(by have h1:=jW.set 42 (.int .i64 (1 - s.slot:Nat));rw[baseC_slot2 hxN.o hxN.o] at h1;exact h1);have c4:=aa (c3.setCell (p:=⟨I.b,42,none⟩) (λ_=>rfl) (.int .i64 (1 - s.slot:Nat)));have HTh:=aa th2;clear sq jW c3 NB th2;refine wpAnyU_seq [18,19,20,21,22,23] _ rfl KJ KJ ?_;show wpList _ _ _ [_,_,_,_,_,_] _ _;go_wp2_with((refine wpList_store_mid rfl 60 _ _ rfl I.b 24 CN ?_ ?_ HTh.o HCN.p2 HCN.p3 ?_);(·rfl);(·rfl);go_frame);go_ret;rw[cm_eq Hp.o H.o.ok Hc.o];refine⟨rfl,?_,?_⟩
        .exact Hd.o.finish sm.o c4.o HNs.p1 HNs.q1 SB.o.spa SB.o.sda (cm_ok Hp.o H.o.ok)
        .exact(SB.o.aL.trans Cd.o).trans (c4.o.mono λx _ e=> .inl e)
def cm_pre{s:aX}{hold:GT}(h:BInv s hold)(k:KInv s)(hg:s.kept.gen<4611686018427387904):CmPre s:=by
 have j5:=h.tok.n1;obtain⟨ta,G0⟩:=place_start h k;obtain⟨pe,p1,p2,p3,p4,p5⟩:=placeV_good h.tok (by have:=h.n16;omega) ta h.need h.ok.n2 h.ok.nl h.ok.rg;have Wx:∀d∈(fm s.t s.next s.ag s.au).2.au,0<=d/\d<s.t.len:=λd hd=>by have:=p2.rg d (QD _ hd);rw[p3] at this;exact this
 have SK:=h.ok.kep.g;have hkr:=k.right;have hk1:0<s.kept.gen:=by unfold nm at hkr;simp only[XR,Qad] at hkr;exact hkr.1.1.1
 have Ay:=k.sg;exact⟨h.live,p1,p3,⟨p2.n2,p3▸p2.nl⟩,λy hy=>by have:=p2.rg y hy;rw[p3] at this;exact this,⟨p4,p5⟩,⟨p2.lp.trans p4,p2.ld.trans p5⟩,
  rooted_ok h.ok.sup j5 Wx _ (by unfold bI at SK|-;omega),rooted_right h.n16 j5 k.sb k.sr Wx _ Mx,keep_ok p2.ok⟩
end
end Go.Proofs.YtjjomjobllcleaaGreat

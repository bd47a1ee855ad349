/- HashRoom, part 4 of 8: parts of its walks and laws, each true as it stands. -/
import Derived.Laws.EntriesVeiled
import Derived.Test.YtjjomjobllcleaaGreatTAC
set_option maxHeartbeats 16000000
set_option maxRecDepth 100000
set_option linter.all false
namespace Go.Proofs.YtjjomjobllcleaaGreat
open Go.Proofs.Tryz
open List (replicate range)
open Go.RowKit Go.Shelf
attribute [local go_sem] Oper.semAt_some
structure abw(w:Wo)(xb rb:Nat)(c4 sc:Ox)(A:Bool)(N:Nat)(r:List ay)(es:List aD)(j:Nat)(wr:Wo):Prop where
 le:j<=es.length
 rest:A=((es.drop j).all (λa=>bz a==N)&&(r.flatMap (·.es)).all (λa=>bz a==N))
 box:aq wr xb 72 c4
 OA:aq wr rb 79 sc
 low:Below w w wr
structure abv(w:Wo)(xb:Nat)(c4:Ox)(A:Bool)(N:Nat)(ss:List ay)(k:Nat)(wr:Wo):Prop where
 le:k<=ss.length
 rest:A=((ss.drop k).flatMap (·.es)).all (λa=>bz a==N)
 box:aq wr xb 72 c4
 low:Below w w wr
def bR{k n m:Nat}(h:k<n)(hn:n<=m)(hm:m<=100000):wrap64 ((k:Int)+1)=(k:Int)+1/\(0:Int)<=k/\(k:Int)<n:=vW
def wa(w:Wo)(c:ak)(v:Va)(h:Uq w w v c)(cC:c.ah.length<=4096)(p:Int)(hp:bI p)(hu:∀e∈c.all,bI e.print):
  Calls prog 90 #[v,ip p] w (iF (.bool (c.all.all λa=>bz a==(p/2^56).toNat)) λw' =>ci w w') :=by
 obtain⟨bv,sv,ps,rfl,hb,hs,fc⟩:=h.ex;obtain⟨Ab,cb,rfl,-,-⟩:=hb.form;obtain⟨As,cs,rfl,-,-⟩:=hs.sl.form;have⟨n,j5⟩:=eX ps.length;have oc:c.ah.length=n:=by rw[j5,<-fc,Qq]
 have⟨nb,gZ⟩:=eX c.blocks.length;rw[oc] at cC;rw[<-j5,<-gZ];obtain⟨N,hN⟩:∃N:Nat,p/2^56=(N:Int):=⟨(p/2^56).toNat,(Xp (gQ hp).1).symm⟩;have hNT:(p/2^56).toNat=N:=hN▸(Xt N);rw[hNT];have HBp:Af (∀W,Calls prog 93 #[ip p] W (iF (ac N) λw' =>W=w')):=λW=>by have h1:=lr W p hp;rw[hN] at h1;exact h1
 have⟨A,hA⟩:=eX (c.all.all (λa=>bz a==N));rw[<-hA];have HC:=Ba cC j5 fc hA hu;have HS:=aa hs;have⟨ax,eo⟩:=eX c.ax;have⟨dep,eK⟩:=eX c.depth;rw[<-eo,<-eK];obtain⟨W0,aY,X0,B0⟩:=nW w [ac ax,ac dep,am Ab nb cb,am As n cs] 72;have fD:=aa aY.symm;have x3:=X0.j3;have rj:Af (abv w w [ac ax,ac dep,am Ab nb cb,am As n cs] A N c.ah 0 W0):=⟨lm,hA,X0,B0⟩;clear hb hs fc j5 oc cC gZ hN hNT hA aY X0 B0 eo eK h hu;go_in;go_upto_region 1 with fail;rw[fD.o];go_wp2;clear x3;go_loopw [12] (λiv wr=>∃k:Nat,iv= ac k/\Af (abv w w [ac ax,ac dep,am Ab nb cb,am As n cs] A N c.ah k wr)) (λiv _=>n - (intOf iv).toNat)
 .exact⟨0,rfl,rj.o⟩
 .obtain⟨k,rfl,HR⟩:=hrel;by_cases hk:k<n
  .obtain⟨q,hq⟩:∃q,ps[k]? =some q:=⟨_,Qf (HC.p2▸hk)⟩;have hS:=HS.o.below HR.o.low;obtain⟨b,o,c',hv,hb,z0,z1,z2⟩:=hS.cells hq;obtain rfl:As=some (an b o):=(by injection hv);have eE:=hS.es q (Qi hq);obtain⟨Ae,ce,hU,-,-⟩:=eE.1.1.form;have⟨L,hL⟩:=eX q.1.es.length;rw[<-hL] at hU;rw[hU] at z2;have JH:c.ah[k]? =some q.1:=(by rw[<-HC.p3,Qt,hq];rfl);have Wi:=zgi JH;have dR:=HR.o.rest;rw[Wi,QH,List.all_append] at dR;have⟨d,hd⟩:=eX q.1.depth;have⟨nx,fu⟩:=eX q.1.next;rw[<-hd] at z0;rw[<-fu] at z1;have b3:=aF wr (.cells #[io d,gc nx,am Ae L ce] 79);have Y3:=ar wr [io d,gc nx,am Ae L ce] 79;have WR:Af (abw w w wr [ac ax,ac dep,am Ab nb cb,el b o n cs] [io d,gc nx,am Ae L ce] A N (c.ah.drop (k+1)) q.1.es 0 (wr.alloc (.cells #[io d,gc nx,am Ae L ce] 79))):=
    ⟨lm,dR,HR.o.box.on b3,Y3,Pd HR.o.low b3⟩
   have t2:=Y3.j2;have wN:Af (∀W,ci w W->Es W w (am Ae L ce) q.1.es):=λW hW=>(by have h1:=(HS.o.es q (Qi hq)).1.below hW;rw[hU] at h1;exact h1);have Hn:=Ba hL (by rw[hL];exact eE.2.2.2:L<=9) hk (λe he=>HC.q4 e (QT.2 ⟨q.1,Qi JH,he⟩):(∀e∈q.1.es,bI e.print)) HR.o.box.lt;obtain⟨u1,u2,u3⟩:=bR hk HC.p1 Fd;have Hu1:=aa u1;have⟨rb,ft⟩:=eX wr.heap.size;have⟨W3,cD⟩:=eX (wr.alloc (.cells #[io d,gc nx,am Ae L ce] 79));rw[<-cD,<-ft] at WR;rw[<-cD,<-ft] at t2;have mT:=dK cD.symm ft.symm;clear hb hS eE hU hL Wi dR hq hd fu hk hv JH HR b3 Y3 u1 ft cD;go_upto_region 4 with fail;rw[mT.p1,mT.q1];clear z0 z1 z2;go_wp2;clear t2;go_loopw [19] (λjv wr=>∃j:Nat,jv= ac j/\Af (abw w w rb [ac ax,ac dep,am Ab nb cb,el b o n cs] [io d,gc nx,am Ae L ce] A N (c.ah.drop (k+1)) q.1.es j wr)) (λjv _=>L - (intOf jv).toNat)
   .exact⟨0,rfl,WR.o⟩
   .obtain⟨j,rfl,HI⟩:=hrel;by_cases hj:j<L
    .have Iw:=wN.o wr HI.o.low;have Ef:j<q.1.es.length:=(by rw[<-Hn.p1];exact hj);obtain⟨be,oe,ce',hU,-,-,mG,Wz⟩:=Iw.cells (QO lm Ef);obtain rfl:Ae=some (an be oe):=(by injection hU);obtain⟨q0,q1⟩:=Wz j Ef;have⟨x,hx⟩:=eX (q.1.es[j]);rw[<-hx] at q0 q1;have hxu:=Hn.p4 x (hx▸(QI _));have BL:q.1.es.drop j=x::q.1.es.drop (j+1):=hx▸(Zd Ef);have dR:=HI.o.rest;rw[BL,Qce] at dR;have⟨pr,gY⟩:=eX x.print;have⟨bk,ej⟩:=eX x.block;rw[<-gY] at q0 hxu;rw[<-ej] at q1;obtain⟨M,hM⟩:∃M:Nat,pr/2^56=(M:Int):=⟨(pr/2^56).toNat,(Xp (gQ hxu).1).symm⟩;have WA:bz x=M:=(by rw[bz,<-gY,hM];exact Xt M);rw[WA] at dR;have HBx:Af (∀W,Calls prog 93 #[ip pr] W (iF (ac M) λw' =>W=w')):=λW=>(by have h1:=lr W pr hxu;rw[hM] at h1;exact h1);have b5:=aF wr (.cells #[ip pr,gc bk] 29);have Y5:=ar wr [ip pr,gc bk] 29;have v0:=Y5.j0;have⟨eb,mR⟩:=eX wr.heap.size;have⟨W5,j6⟩:=eX (wr.alloc (.cells #[ip pr,gc bk] 29));have zb:=dK j6.symm mR.symm;rw[<-j6] at b5;rw[<-j6,<-mR] at v0;have qg:=aa HI.o;obtain⟨u1,u4,u5⟩:=bR hj Hn.p2 Fd;have Hj:=dK hj Ef;clear Iw Ef hU mG Wz hx hxu BL gY ej hM WA Y5 mR j6 HI hj;change Af _ at dR b5 u1;go_upto_region 7 with fail;rw[zb.p1,zb.q1];clear q0 q1;by_cases hMN:M=N
     .have hIN:abw w w rb [ac ax,ac dep,am Ab nb cb,el b o n cs] [io d,gc nx,el be oe L ce] A N (c.ah.drop (k+1)) q.1.es (j+1) W5:=
       ⟨Hj.q1,by rw[dR.o,hMN,beq_self_eq_true,Qda],qg.o.box.on b5.o,qg.o.OA.on b5.o,Pd qg.o.low b5.o⟩
      have HIN:=aa hIN;subst hMN;clear hIN;go_wp2_with(first|((go_at_call 93;with_reducible refine(HBx.o _).mono ?_);rintro e W6 ⟨rfl,rfl⟩)|((go_at_call 93;with_reducible refine(HBp.o _).mono ?_);rintro e W6 ⟨rfl,rfl⟩));exact⟨⟨j+1,Nm,HIN.o⟩,by first|exact al Hj.p1|(rw[u1.o];exact al Hj.p1)⟩
     .have jr:=Xc (λe=>hMN (Int.natCast_inj.1 e));have yZ:((M:Int)!=(N:Int))=true:=(by rw[bne,jr];rfl);have Um:Af (A=false):=(by show _=_;rw[dR.o,Xc hMN];rfl);have HL5:=aa (Pd qg.o.low b5.o);clear hMN;go_wp2_with(first|((go_at_call 93;with_reducible refine(HBx.o _).mono ?_);rintro e W6 ⟨rfl,rfl⟩)|((go_at_call 93;with_reducible refine(HBp.o _).mono ?_);rintro e W6 ⟨rfl,rfl⟩));(all_goals(try rw[Qv]));(all_goals go_ret);all_goals exact⟨zda,HL5.o⟩
    .have TC:=QE (Hn.p1▸HI.o.le) (QC hj);have dR:=HI.o.rest;rw[Zu (by rw[<-Hn.p1,TC];exact go),Qgb,Qda] at dR;have Nt:abv w w [ac ax,ac dep,am Ab nb cb,el b o n cs] A N c.ah (k+1) wr:=⟨by rw[<-HC.p3,Qq,<-HC.p2];exact Hn.p3,dR,HI.o.box,HI.o.low⟩;have Te:=aa Nt;have bj:=aa Hn.p3;subst TC;clear HI hj dR Nt;go_wp2;exact⟨⟨k+1,by first|rfl|(rw[Hu1.o];rfl),Te.o⟩,zbP⟩
  .have cH:=QE (by have h1:=HR.o.le;rw[<-HC.p3,Qq,<-HC.p2] at h1;exact h1) (QC hk);have dR:=HR.o.rest;rw[Zu (by rw[cH,<-HC.p3,Qq,<-HC.p2];exact go)] at dR;have NP:=aa dR;have HL:=aa HR.o.low;subst cH;clear HR hk dR;go_wp2;(try rw[Qv]);go_ret;exact⟨by rw[NP.o];rfl,HL.o⟩
section
variable{W W' w w' :Wo}{bv lv sv v:Va}{ps:List (ay × Va)}{S:FV}{c:ak}{base cb g0 g2 rb sb:Nat}{c4 s3:Ox}{blocks:Fr}{l:List aD}{T:Fy}{s:ay}
structure iP(w:Wo)(S:FV)(v:Va)(ps:List (ay×Va)):Prop where
 s:mP w w v ps
 a:Ap S v
 e:∀p∈ps,Ap S p.2
structure jw(w:Wo)(S:FV)(v:Va)(c:ak):Prop where
 ex:∃bv sv ps,v= .agg #[.int .i64 c.ax,.int .i64 c.depth,bv,sv]/\Ns w w .i64 bv c.blocks/\Ap S bv/\iP w S sv ps/\ps.map Prod.fst=c.ah
def mP.on(h:mP w w v ps)(hb:ci w w'):mP w' w' v ps:=(h.below hb).more hb.size
def dU{k:IntKind}{xs:Fr}(h:Ns w w k v xs)(hb:ci w w'):Ns w' w' k v xs:=Sl.more (Sl.below h hb) hb.size
def gA{es:List aD}(h:Es w w v es)(hb:ci w w'):Es w' w' v es:=(h.below hb).more hb.size
def iP.on(h:iP w S v ps)(hb:ci w w'):iP w' S v ps:=⟨h.s.on hb,h.a,h.e⟩
def jw.on(h:jw w S v c)(hb:ci w w'):jw w' S v c:=by obtain⟨bv,sv,ps,e,h1,h2,h3,h4⟩:=h.ex;exact⟨bv,sv,ps,e,dU h1 hb,h2,h3.on hb,h4⟩
def jw.chn(h:jw w S v c):Uq w w v c:=by obtain⟨bv,sv,ps,e,h1,h2,h3,h4⟩:=h.ex;exact⟨bv,sv,ps,e,h1,h3.s,h4⟩
def jG{e sz n:Nat}{xs:Ox}(h:w.ownsRow base e sz v n xs)(hS:∀x,S x->x<base):Ap S v:=by
 intro b o n' c' _ hv hs;rcases h.2 with⟨rfl,_⟩|⟨g,cap,cur,rfl,h1,_⟩
 .cases hv
 .cases hv;have:=hS _ hs;omega
def rl.cha{m:zgk}(h:rl w base m)(hS:∀x,S x->x<base):jw w S (.agg #[ac m.c.ax,ac m.c.depth,m.bv,m.sv]) m.c:=
 ⟨m.bv,m.sv,m.ps,rfl,h.b.ns,jG h.b hS,⟨h.s.Wa,jG h.s.row hS,λp hp=>jG (h.s.es p hp).1 hS⟩,h.p⟩
def kP.on(h:kP w base v ps)(hb:ci w w'):kP w' base v ps:=aS h hb
structure Ti(w:Wo)(W:Wo)(cb sb rb:Nat)(c4 s3:Ox)(bv sv lv:Va)(blocks:Fr)(ps:List (ay×Va))(l:List aD):Prop where
 c:aq W cb 72 c4
 s:aq W sb 79 s3
 r:aq W rb 72 [.int .i64 0,.int .i64 0,(),()]
 bn:Ns W W .i64 bv blocks
 sn:mP W W sv ps
 en:Es W W lv l
 low:Below w w W
def Ti.on(h:Ti w W cb sb rb c4 s3 bv sv lv blocks ps l)(hb:ci W W'):Ti w W' cb sb rb c4 s3 bv sv lv blocks ps l:=
 ⟨h.c.on hb,h.s.on hb,h.r.on hb,dU h.bn hb,h.sn.on hb,gA h.en hb,Pd h.low hb⟩
def Vt{x:Int}(X0:aq W g0 3 [ac x])(hb:Ns W W .i64 bv blocks)(X2:aq W g2 T [el g0 0 1 1,bv]):NsL W (el g2 0 2 2) [(el g0 0 1 1,[x]),(bv,blocks)]:=
 ⟨X2.sl (o:=0) (n:=2) (sz:=1) (c:=2) Sv go AN,λp hp=>by
  obtain rfl|hp:=QA.1 hp
  .exact X0.sl (o:=0) (n:=1) (sz:=1) (c:=1) Sv go AN
  .rw[Qx] at hp
   subst hp;exact hb⟩
def Vd{g:Nat}(X:aq W g 79 [io s.depth,gc s.next,lv])(he:Es W W lv s.es)(ho:pC s):mP W W (el g 0 1 1) [(s,lv)]:=
 ⟨X.sl (o:=0) (n:=1) (sz:=3) (c:=1) Sv go AN,λp hp=>by
  rw[Qx] at hp;subst hp;exact⟨he,ho⟩⟩
def Vb(X0:aq W g0 79 [io s.depth,gc s.next,lv])(he:Es W W lv s.es)(ho:pC s)(hs:mP W W sv ps)(X2:aq W g2 T [el g0 0 1 1,sv]):SsL W (el g2 0 2 2) [(el g0 0 1 1,[(s,lv)]),(sv,ps)]:=
 ⟨X2.sl (o:=0) (n:=2) (sz:=1) (c:=2) Sv go AN,λp hp=>by
  obtain rfl|hp:=QA.1 hp
  .exact Vd X0 he ho
  .rw[Qx] at hp
   subst hp;exact hs⟩
def Vg(h:kP W base v ps)(he:∀p∈ps,Es W W p.2 p.1.es/\pC p.1):mP W W v ps:=⟨Sl.bU h,he⟩
def Su(h:Ti w W cb sb rb c4 s3 bv sv lv blocks ps l)(h1:sb≠cb)(h2:sb≠rb)(h3:w<=sb)(WB:Ns w w .i64 bv blocks)(Wh:mP w w sv ps)(hen:Es w w lv l)(j:Nat)(u:Va):Ti w (W.setCell (an sb j) u) cb sb rb c4 (s3.set j u) bv sv lv blocks ps l:=by have aU:=h.low.setCell (p:=an sb j) h3 u;exact⟨h.c.az (p:=an sb j) (Xm h1) u,h.s.set j u,h.r.az (p:=an sb j) (Xm h2) u,dU WB aU,Wh.on aU,gA hen aU,aU⟩
structure AhC(w W:Wo)(cb rb:Nat)(c4:Ox)(bv:Va)(blocks:Fr)(sv:Va)(ps:List (ay×Va)):Prop where
 c:aq W cb 72 c4
 r:aq W rb 72 [.int .i64 0,.int .i64 0,(),()]
 b:aB W w 3 .i64 bv blocks
 s:kP W w sv ps
 low:Below w w W
def AhC.set(h:AhC w W cb rb c4 bv blocks sv ps)(bT:rb≠cb)(hle:w<=cb)(j:Nat)(u:Va):AhC w (W.setCell (an cb j) u) cb rb (c4.set j u) bv blocks sv ps:=
 ⟨h.c.set j u,h.r.az (p:=an cb j) bT u,aB.aT (T:=72) h.b h.c Fd j u,ie h.s h.c Fd j u,h.low.setCell (p:=an cb j) hle u⟩
def Ah2(T1 T2:Fy)(c1:Ox)(v:Va)(R:Wo->Va->Prop)(W:Wo)(x y z:Va):Nat->Prop
 |0=>True
 |1=>∃g,x= .slice (some ⟨g,0,none⟩) 1 1/\aq W g T1 c1
 |2=>∃g h,y= .slice (some ⟨h,0,none⟩) 2 2/\aq W g T1 c1/\aq W h T2 [.slice (some ⟨g,0,none⟩) 1 1,v]
 |_=>(∃A n c,z= .slice A n c)/\R W z
def Ah2.on{T1 T2:Fy}{c1:Ox}{x y z:Va}{R:Wo->Va->Prop}:∀{i:Nat},Ah2 T1 T2 c1 v R W x y z i->(R W z->R W' z)->ci W W'->Ah2 T1 T2 c1 v R W' x y z i
 |0,_,_,_=>trivial
 |1,⟨g,e,h⟩,_,b=>⟨g,e,h.on b⟩
 |2,⟨g,h,e,h1,h2⟩,_,b=>⟨g,h,e,h1.on b,h2.on b⟩
 |_+3,⟨e,h⟩,hR,_=>⟨e,hR h⟩
def pR(w:Wo)(S:FV)(hS:∀x,S x->x<w.heap.size)(ax dep:Nat)(l:List aD)(blocks:Fr)(ps:List (ay×Va))(lv bv sv:Va)(hd:dep<=8)(hl:Es w w lv l)(hla:Ap S lv)(hl9:l.length<=9)
  (hb:Ns w w .i64 bv blocks) (pq:Ap S bv) (hs:iP w S sv ps) (fg:blocks.length=ps.length) (cC:blocks.length<=4096) (e8:∀x∈blocks,0<=x/\x<4096):
  Calls prog 87 #[ac ax,ac dep,lv,bv,sv] w λe w' =>∃v,e= .returned v/\jw w' S v (bZ ax dep l blocks (ps.map Prod.fst))/\ci w w' :=by
 obtain⟨Al,cl,rfl,-,-⟩:=hl.1.form;obtain⟨Ab,fQ,rfl,-,-⟩:=hb.form;obtain⟨As,gq,rfl⟩:=hs.s.form;obtain⟨nl,oc⟩:∃y,y=l.length:=⟨_,rfl⟩;have⟨nb,gZ⟩:=eX blocks.length;have pT:ps.length=nb:=by rw[gZ,fg]
 rw[<-oc,<-gZ,pT];rw[<-oc] at hl hla;rw[<-gZ] at hb pq;rw[pT] at hs;have HI:Af ((∀x,S x->x<w.heap.size)/\Es w w (am Al nl cl) l/\Ap S (am Al nl cl)/\Ns w w .i64 (am Ab nb fQ) blocks/\Ap S (am Ab nb fQ)/\iP w S (am As nb gq) ps/\nl=l.length/\nl<=9/\nb=blocks.length/\nb=ps.length/\nb<=4096/\dep<=8/\∀x∈blocks,0<=x/\x<4096):=
  ⟨hS,hl,hla,hb,pq,hs,oc,Mx,gZ,pT.symm,Mx,hd,e8⟩
 obtain⟨W0,aY⟩:∃y,y=w.alloc (.cells #[ac 0,ac 0,(),()] 72):=⟨_,rfl⟩;have R0:aq W0 w 72 [ac 0,ac 0,(),()]:=by rw[aY];exact ar w [_,_,_,_] _
 have B0:ci w W0:=zay;have lz:W0.heap.size=w.heap.size+1:=zbf;obtain⟨W1,aW,C1,B1⟩:=nW W0 [ac ax,ac dep,am Ab nb fQ,am As nb gq] 72;have fI:=Pd B0 B1;have R1:=R0.on B1;have⟨cb,iI⟩:=eX W0.heap.size;rw[<-iI] at C1;have Hcb:Af (w.heap.size<cb):=by show _<_;rw[iI,lz];exact XL _
 have fD:=aa aY.symm;have gB:=dK aW.symm iI.symm;have su:=aa C1;have pX:=aa R1;have wP:=aa fI;have HS0:=aa (lz.symm.trans iI.symm);clear hS hd hl hla hl9 hb pq hs fg cC e8 oc gZ pT aY R0 B0 lz aW C1 B1 fI R1 iI;go_in;go_upto_region 1 with fail;rw[fD.o];go_upto_region 2 with fail;rw[gB.p1];try rw[gB.q1]
 try rw[HS0.o]
 by_cases sF:nl=0/\0<nb
 .have AE:bZ ax dep l blocks (ps.map Prod.fst)=⟨ax,dep,blocks,ps.map Prod.fst⟩:=by
   unfold bZ;rw[Xo ⟨List.length_eq_zero_iff.1 (HI.p7.symm.trans sF.1),λh=>by
    have h1:=HI.p9;rw[h] at h1;have:=sF.2;simp at h1;omega⟩]
  obtain⟨h0,h1⟩:=sF;subst h0;have k1:(0:Int)<nb:=Xi.2 h1;obtain⟨c0,c1,c2,c3⟩:=mm su.o;obtain⟨r0,r1,r2,r3⟩:=mm pX.o;obtain⟨f0,f1,f2,f3⟩:=WI pX.o;have Hav:=aa AE;clear h1 AE;go_wp2_with fail;refine Qar (lj rfl rfl (eY (oW pX.o _ _ _ _))) rfl ?_;rw[Hav.o];have bw:=(((wP.o.setCell (p:=ol w) go (ac ax)).setCell (p:=an w.heap.size 1) go (ac dep)).setCell (p:=an w.heap.size 2) go (am Ab nb fQ)).setCell (p:=an w.heap.size 3) go (am As nb gq);exact⟨_,rfl,⟨_,_,ps,rfl,dU HI.p4 bw,HI.p5,HI.p6.on bw,rfl⟩,bw⟩
 .have AE:bZ ax dep l blocks (ps.map Prod.fst)=⟨ax,dep,0::blocks,⟨dep,blocks.headD 0,l⟩::ps.map Prod.fst⟩:=by unfold bZ;rw[Xd];rintro⟨h1,h2⟩;refine sF ⟨by rw[HI.p7,h1];rfl,?_⟩;rw[HI.p9];exact List.length_pos_iff.2 h2
  have Hav:=aa AE;have YT:=aa sF;clear AE sF;go_cut [25] from 18 to 25 (λv25 W=>v25= .bool false/\Af (W=W1))
  .rcases XG nl with h0|h0
   .have jU:nb=0:=Nat.eq_zero_of_not_pos λh=>YT.o ⟨h0,h⟩;subst h0;clear YT;subst jU;go_wp2_with fail;go_meet;exact⟨rfl,rfl⟩
   .have k0:((nl:Int)==0)=false:=Xc Mx;clear h0;go_wp2_with fail;go_meet;exact⟨rfl,rfl⟩
  .obtain⟨rfl,hw⟩:=hcut;have hw:=hw.o;subst hw;have hdw:IntKind.u8.wrap (dep:Int)=dep:=(by have h1:=HI.p12;exact zeB);go_upto_region 5 with fail;obtain⟨W5,j6,S5,b5⟩:=nW wc [io dep,gc 0,am Al nl cl] 79;obtain⟨sb,jq⟩:∃z,z=wc.heap.size:=⟨_,rfl⟩;rw[<-j6];rw[<-jq] at S5|-;obtain⟨hd,hhd⟩:∃y,y=blocks.headD 0:=⟨_,rfl⟩;have fq:Af (sb≠cb/\w.heap.size≠cb/\w.heap.size<=cb/\w.heap.size<=sb/\sb≠w.heap.size):=⟨by rw[jq];exact XO su.o.lt,XP Hcb.o,QX Hcb.o,by rw[jq];exact wP.o.size,by rw[jq];exact XO pX.o.lt⟩;have L5:=Pd wP.o b5;have A5:Ti w W5 cb sb w.heap.size [ac ax,ac dep,am Ab nb fQ,am As nb gq] [io dep,gc 0,am Al nl cl] (am Ab nb fQ) (am As nb gq) (am Al nl cl) blocks ps l:=
    ⟨su.o.on b5,S5,pX.o.on b5,dU HI.p4 L5,HI.p6.s.on L5,gA HI.p2 L5,L5⟩
   have HA5:=aa A5;have s1:=S5.j1;have g1:=S5.free 1;have Hhd:=aa hhd;clear j6 jq b5 S5 L5 A5 hhd hdw;obtain⟨k33,agz⟩:∃k:Bool,k=decide (0<nb):=⟨_,rfl⟩;have abA:Af (k33=decide (0<nb)):=agz;clear agz;go_cut [33] from 31 to 33 (λv33 W=>v33= .bool k33/\Af (Ti w W cb sb w.heap.size [ac ax,ac dep,am Ab nb fQ,am As nb gq] [io dep,gc 0,am Al nl cl] (am Ab nb fQ) (am As nb gq) (am Al nl cl) blocks ps l))
   .go_wp2_with fail;go_meet;exact⟨by rw[abA.o],HA5.o⟩
   case rest=>
   obtain⟨rfl,HA5⟩:=hcut;have s1:=HA5.o.s.j1;have g1:=HA5.o.s.free 1;go_upto_if 33 with fail;go_cut [38] from 34 to 38 (λv38 W=>Af (Ti w W cb sb w.heap.size [ac ax,ac dep,am Ab nb fQ,am As nb gq] [io dep,gc hd,am Al nl cl] (am Ab nb fQ) (am As nb gq) (am Al nl cl) blocks ps l))
   .cases k33
    .have hh:Af (hd=0):=(by have h0:nb=0:=(by have h1:=Qbo abA.o.symm;omega);show _=_;rw[Hhd.o,List.length_eq_zero_iff.1 (HI.p9.symm.trans h0)];rfl);go_wp2_with fail;go_meet;show Ti _ _ _ _ _ _ _ _ _ _ _ _ _;rw[hh.o];exact HA5.o
    .have h0:0<nb:=(by have h1:=XQ abA.o.symm;omega);obtain⟨b,o,c',hv,-,-,bO,aH⟩:=HA5.o.bn.cells (by rw[<-HI.p9];exact h0);have mQ :Value.slice Ab nb fQ= el b o blocks.length c' :=hv;obtain rfl:Ab=some (an b o):=zcr;have pV:=aH 0 (by rw[<-HI.p9];exact h0);have hhe:blocks.getD 0 0=hd:=(by rw[Hhd.o];cases blocks<;>rfl);rw[hhe,XC] at pV;have k1:(0:Int)<nb:=Xi.2 h0;have UG:hd∈blocks:=by
      rw[Hhd.o];have h1:=HI.p9
      cases blocks with
      |nil=>simp at h1;omega
      |cons x r=>exact Qm ..
     have hr:=HI.q12 hd UG;have hw:IntKind.u32.wrap hd=hd:=zeB;clear hv mQ bO aH h0 hhe UG hr;go_wp2_with fail;go_meet;exact Su HA5.o fq.p1 fq.q4 fq.p4 HI.p4 HI.p6.s HI.p2 1 (gc hd)
   .have HA6:=hcut;have HSk:Af (pC ⟨dep,hd,l⟩):=by
     have h1:=HI.o;have hr:0<=hd/\hd<4096:=by
      rw[Hhd.o]
      cases ej:blocks with
      |nil=>exact⟨Qcp _,Fd⟩
      |cons x r=>exact h1.2.2.2.2.2.2.2.2.2.2.2.2 x (by rw[ej];exact Qm ..)
     have qc:=h1.2.2.2.2.2.2.2.2.2.2.2.1;have hl9:=h1.2.2.2.2.2.2.2.1;have hl:=h1.2.2.2.2.2.2.1;refine⟨⟨by show(0:Int)<=dep;omega,by show(dep:Int)<256;omega⟩,⟨hr.1,by show hd<4294967296;omega⟩,by show l.length<=9;omega⟩
    clear s1 g1;go_upto_region 7 with fail;go_cut [42] from 39 to 49 (λv42 W=>Af (∃NC tZ,AhC w W cb w.heap.size [ac ax,ac dep,NC,tZ] NC (0::blocks) tZ ((⟨dep,hd,l⟩,am Al nl cl)::ps)))
    .refine bL (λj=>[10,11,12].contains j) (λW=>aq W cb 72 [ac ax,ac dep,am Ab nb fQ,am As nb gq]/\aq W sb 79 [io dep,gc hd,am Al nl cl]) KJ ?_;have HP7:=aa (HA6.o.on (W' :=wc.drew) (below_drewN pi 1));obtain⟨Wd,dJ⟩:∃y,y=wc.drew:=⟨_,rfl⟩;rw[<-dJ] at HP7|-;clear dJ;have AH:=HP7.o;refine aK (i:=1) (some 40) (v:= am Ab nb fQ) rfl rfl KJ (fP KJ) (λ_ _ _ h=>h) (Or.inl ⟨zac,λW hW=>zM⟩) ⟨AH.c,AH.s⟩ ?_;(try simp only[Act.put,Qb,Qc,Qd]);refine aK (i:=4) (some 43) (v:= .agg #[io dep,gc hd,am Al nl cl]) rfl rfl KJ (fP KJ) (λ_ _ _ h=>h) (Or.inl ⟨zac,λW hW=>zaT⟩) ⟨AH.c,AH.s⟩ ?_;(try simp only[Act.put,Qb,Qc,Qd]);refine aK (i:=6) (some 45) (v:= am As nb gq) rfl rfl KJ (fP KJ) (λ_ _ _ h=>h) (Or.inl ⟨zac,λW hW=>zM⟩) ⟨AH.c,AH.s⟩ ?_;try simp only[Act.put,Qb,Qc,Qd]
     refine gR [0,2,3,9] [5,7,8] (λa0 i j a W=>∃x0 x2 x3 x9 x5 x7 x8,a=((((((a0.put (some 39) x0).put (some 41) x2).put (some 42) x3).put (some 48) x9).put (some 44) x5).put (some 46) x7).put (some 47) x8/\Ti w W cb sb w.heap.size [ac ax,ac dep,am Ab nb fQ,am As nb gq] [io dep,gc hd,am Al nl cl] (am Ab nb fQ) (am As nb gq) (am Al nl cl) blocks ps l/\
      Ah2 3 53 [ac 0] (am Ab nb fQ) (λW z=>aB W w 3 .i64 z (0::blocks)) W x0 x2 x3 i/\(4<=i->x9= ro cb 2)/\Ah2 79 70 [io dep,gc hd,am Al nl cl] (am As nb gq) (λW z=>kP W w z ((⟨dep,hd,l⟩,am Al nl cl)::ps)) W x5 x7 x8 j) 3 rfl KJ ⟨undef,undef,undef,undef,undef,undef,undef,rfl,AH,trivial,λh=>absurd h Fd,trivial⟩ ⟨?_,?_,?_,?_,trivial⟩ ⟨?_,?_,?_,trivial⟩ ?_
     all_goals clear AH
     .rintro j a W ⟨x0,x2,x3,x9,x5,x7,x8,rfl,AH,-,-,HB⟩;refine bJ rfl (λK hK=> ?_);obtain⟨V,hV,X,b⟩:=nW W [ac 0] 3;simp only[Act.put,Qb,Qc,Qd];go_simp;rw[<-hV];refine hK.out _ _ ⟨λ_=>⟨(AH.on b).c,(AH.on b).s⟩,el W 0 1 1,x2,x3,x9,x5,x7,x8,?_,AH.on b,⟨_,rfl,X⟩,λh=>absurd h Fd,HB.on (λh=>kP.on h b) b⟩;exact zef
     .rintro j a W ⟨x0,x2,x3,x9,x5,x7,x8,rfl,AH,⟨g,rfl,X0⟩,-,HB⟩;refine bJ rfl (λK hK=> ?_);obtain⟨V,hV,X,b⟩:=nW W [el g 0 1 1,am Ab nb fQ] 53;simp only[Act.put,Qb,Qc,Qd];go_simp;rw[<-hV];refine hK.out _ _ ⟨λ_=>⟨(AH.on b).c,(AH.on b).s⟩,el g 0 1 1,el W 0 2 2,x3,x9,x5,x7,x8,?_,AH.on b,⟨g,_,rfl,X0.on b,X⟩,λh=>absurd h Fd,HB.on (λh=>kP.on h b) b⟩;exact zef
     .rintro j a W ⟨x0,x2,x3,x9,x5,x7,x8,rfl,AH,⟨g,h,rfl,X0,X2⟩,-,HB⟩;refine bJ rfl (λK hK=> ?_);have HC:=nQ W _ _ (Vt X0 AH.bn X2) (show 2<=10000 by decide) (by show([(0:Int)]++(blocks++[])).length<=100000;have:=HI.p9;have:=HI.p11;simp;omega);simp only[Act.put,Qb,Qc,Qd];go_simp;go_at_call 120;refine Qaw HC ?_;rintro e V ⟨v,rfl,o,b⟩;obtain⟨A3,n3,c3,rfl⟩:=o.bu;go_simp;refine hK.out _ _ ⟨λ_=>⟨(AH.on b).c,(AH.on b).s⟩,x0,el h 0 2 2,am A3 n3 c3,x9,x5,x7,x8,?_,AH.on b,⟨⟨_,_,_,rfl⟩,by simpa using o.low (show w.heap.size<=_ from AH.low.size)⟩,λh=>absurd h Fd,HB.on (λh=>kP.on h b) b⟩;exact zef
     .rintro j a W ⟨x0,x2,x3,x9,x5,x7,x8,rfl,AH,HA,-,HB⟩;refine bJ rfl (λK hK=> ?_);simp only[Act.put,Qb,Qc,Qd];go_simp;refine hK.out _ _ ⟨λ_=>⟨AH.c,AH.s⟩,x0,x2,x3,ro cb 2,x5,x7,x8,?_,AH,HA,λ_=>rfl,HB⟩;exact zef
     .rintro i a W ⟨x0,x2,x3,x9,x5,x7,x8,rfl,AH,HA,H9,-⟩;refine bJ rfl (λK hK=> ?_);obtain⟨V,hV,X,b⟩:=nW W [io dep,gc hd,am Al nl cl] 79;simp only[Act.put,Qb,Qc,Qd];go_simp;rw[<-hV];refine hK.out _ _ ⟨λ_=>⟨(AH.on b).c,(AH.on b).s⟩,x0,x2,x3,x9,el W 0 1 1,x7,x8,?_,AH.on b,HA.on (λh=>aB.on h b) b,H9,⟨_,rfl,X⟩⟩;exact zef
     .rintro i a W ⟨x0,x2,x3,x9,x5,x7,x8,rfl,AH,HA,H9,⟨g,rfl,X0⟩⟩;refine bJ rfl (λK hK=> ?_);obtain⟨V,hV,X,b⟩:=nW W [el g 0 1 1,am As nb gq] 70;simp only[Act.put,Qb,Qc,Qd];go_simp;rw[<-hV];refine hK.out _ _ ⟨λ_=>⟨(AH.on b).c,(AH.on b).s⟩,x0,x2,x3,x9,el g 0 1 1,el W 0 2 2,x8,?_,AH.on b,HA.on (λh=>aB.on h b) b,H9,⟨g,_,rfl,X0.on b,X⟩⟩;exact zef
     .rintro i a W ⟨x0,x2,x3,x9,x5,x7,x8,rfl,AH,HA,H9,⟨g,h,rfl,X5,X7⟩⟩;refine bJ rfl (λK hK=> ?_);have HC:=DP W _ _ (Vb (s:=⟨dep,hd,l⟩) X5 AH.en HSk.o AH.sn X7) (show 2<=10000 by decide) (by show([_]++(ps++[])).length<=100000;have:=HI.p10;have:=HI.p11;simp;omega);simp only[Act.put,Qb,Qc,Qd];go_simp;go_at_call 157;refine Qaw HC ?_;rintro e V ⟨v,rfl,o,b⟩;obtain⟨A8,n8,c8,rfl⟩:=o.form;go_simp;have h1:kP V w _ _:=fB o (show w.heap.size<=_ from AH.low.size);refine hK.out _ _ ⟨λ_=>⟨(AH.on b).c,(AH.on b).s⟩,x0,x2,x3,x9,x5,el h 0 2 2,am A8 n8 c8,?_,AH.on b,HA.on (λh=>aB.on h b) b,H9,⟨⟨_,_,_,rfl⟩,zau⟩⟩;exact zef
     .rintro a V8 ⟨x0,x2,x3,x9,x5,x7,x8,rfl,AH,⟨⟨A3,n3,c3,rfl⟩,O3⟩,H9,⟨⟨A8,n8,c8,rfl⟩,O8⟩⟩;obtain rfl:=H9 Fd;simp only[Act.put,Qb,Qc,Qd];have K9:AhC w V8 cb w.heap.size [ac ax,ac dep,am Ab nb fQ,am As nb gq] (am A3 n3 c3) (0::blocks) (am A8 n8 c8) ((⟨dep,hd,l⟩,am Al nl cl)::ps):=⟨AH.c,AH.r,O3,O8,AH.low⟩;clear AH O3 O8 H9;refine ju 10 rfl KJ λK hK=> ?_;have z2:=K9.c.j2;have f2:=K9.c.free 2;go_simp;have⟨ND,Oc⟩:=eX (V8.setCell (an cb 2) (am A3 n3 c3));have WQ:=K9.set fq.p2 fq.p3 2 (am A3 n3 c3);rw[<-Oc] at WQ|-;clear Oc z2 f2;refine hK.out _ _ (λh=>absurd h Fd) ?_;clear hK K;(try simp only[Act.put,Qb,Qc,Qd]);refine ju 11 rfl KJ λK hK=> ?_;go_simp;refine hK.out _ _ (λh=>absurd h Fd) ?_;clear hK K;(try simp only[Act.put,Qb,Qc,Qd]);refine ju 12 rfl KJ λK hK=> ?_;have z3:=WQ.c.j3;have f3:=WQ.c.free 3;go_simp;have⟨V12,ag0⟩:=eX (ND.setCell (an cb 3) (am A8 n8 c8));have K12:=WQ.set fq.p2 fq.p3 3 (am A8 n8 c8);rw[<-ag0] at K12|-;clear ag0 z3 f3;refine hK.out _ _ (λh=>absurd h Fd) ?_;clear hK K;(try simp only[Act.put,Qb,Qc,Qd]);refine bD KJ ?_ _;go_wp2_with fail;go_meet;exact⟨_,_,K12⟩
    .obtain⟨NC,tZ,hR⟩:=hcut.o;obtain⟨A3,n3,c3,rfl⟩:=aB.bu hR.b;obtain⟨A8,n8,c8,rfl⟩:=kP.form hR.s;obtain⟨c0,c1,c2,c3'⟩:=mm hR.c;obtain⟨r0,r1,r2,r3⟩:=mm hR.r;obtain⟨f0,f1,f2,f3⟩:=WI hR.r;have HR:=aa hR;clear hR;go_wp2_with fail;refine Qar (lj rfl rfl (eY (oW HR.o.r _ _ _ _))) rfl ?_;rw[Hav.o];have q1:=HR.o.r;have q2:=q1.set 0 (ac ax);have q3:=q2.set 1 (ac dep);have q4:=q3.set 2 (am A3 n3 c3);have bw:=(((HR.o.low.setCell (p:=ol w) go (ac ax)).setCell (p:=an w.heap.size 1) go (ac dep)).setCell (p:=an w.heap.size 2) go (am A3 n3 c3)).setCell (p:=an w.heap.size 3) go (am A8 n8 c8);have ob:=aB.aT (aB.aT (aB.aT (aB.aT HR.o.b q1 Fd 0 (ac ax)) q2 Fd 1 (ac dep)) q3 Fd 2 (am A3 n3 c3)) q4 Fd 3 (am A8 n8 c8);have os:=ie (ie (ie (ie HR.o.s q1 Fd 0 (ac ax)) q2 Fd 1 (ac dep)) q3 Fd 2 (am A3 n3 c3)) q4 Fd 3 (am A8 n8 c8);refine⟨_,rfl,⟨_,_,(⟨dep,hd,l⟩,am Al nl cl)::ps,rfl,ob.ns,jG ob HI.p1,⟨Vg os ?_,jG os HI.p1,?_⟩,?_⟩,bw⟩
     .intro p hp;obtain rfl|hp:=QA.1 hp
      .exact⟨gA HI.p2 bw,HSk.o⟩
      .exact((HI.p6.s.on bw).es p hp)
     .intro p hp;obtain rfl|hp:=QA.1 hp
      .exact HI.p3
      .exact HI.p6.e p hp
     .rw[Zs,Hhd.o]
variable{h n:Nat}
def VV(hn:n<256):bits .and .i64 (n:Int) (h:Int)=((n&&&h%2^64:Nat):Int):=by
 have h1:(BitVec.ofInt 64 (n:Int)).toNat=n:=WF;have h2:(BitVec.ofInt 64 (h:Int)).toNat=h%2^64:=by rw[BitVec.ofInt_natCast,BitVec.toNat_ofNat]
 show IntKind.i64.wrap ((BitVec.ofInt 64 (n:Int)&&&BitVec.ofInt 64 (h:Int)).toNat:Int)=_;rw[BitVec.toNat_and,h1,h2];have h3:n&&&h%2^64<=n:=Nat.and_le_left;generalize n&&&h%2^64=z at*;exact zgf
def De(hn:n<256)(hh:h<256):bits .and .i64 (n:Int) (h:Int)=((n&&&h:Nat):Int):=by rw[VV hn,Nat.mod_eq_of_lt Mx]
def jz(e:aD):Va:= .agg #[.int .u64 e.print,.int .u32 e.block]
def Ln(w:Wo)(e:aD)(hu:bI e.print)(hb fb half ax:Nat)(h1:aq w hb 3 [ac half])(h2:aq w fb 3 [ac ax])(hh:half<256)(hf:ax<256):
  Calls prog 161 #[jz e,hb,fb] w (iF (.bool (cI half ax e)) λw' =>ci w w') :=by
 obtain⟨pr,bk⟩:=e;unfold jz;dsimp only at hu|-;obtain⟨N,hN⟩:∃N:Nat,pr/2^56=(N:Int):=⟨(pr/2^56).toNat,(Xp (gQ hu).1).symm⟩;have sG:N<256:=by have:=(gQ hu).2.1;rw[hN] at this;omega
 have mG:bz ⟨pr,bk⟩=N:=by unfold bz;show(pr/2^56).toNat=N;rw[hN];exact Xt N
 have hm:cI half ax ⟨pr,bk⟩=(N&&&half==ax&&&half):=by rw[cI,mG]
 rw[hm];have⟨a,ha⟩:=eX (N&&&half);have⟨c,hc⟩:=eX (ax&&&half);have k1:bits .and .i64 (N:Int) (half:Int)=(a:Int):=by rw[De sG hh,ha]
 have k2:bits .and .i64 (ax:Int) (half:Int)=(c:Int):=by rw[De hf hh,hc]
 rw[<-ha,<-hc];obtain⟨W0,aY,X0,B0⟩:=nW w [ip pr,gc bk] 29;have fD:=aa aY.symm;have x0:=X0.j0;have y1:=(h1.on B0).j0;have y2:=(h2.on B0).j0;have mV:=aa B0;have HBg:Af (∀q,Calls prog 93 #[ip pr] (W0.drewN q) (iF (ac N) λw' =>∃m,w' =W0.drewN m)):=λq=>Qec ((lr (W0.drewN q) pr hu).mono λe w' h=>by rw[hN] at h;exact⟨h.1,h.2.symm⟩);have HEq:Af (((a:Int)==(c:Int))=(a==c)):=by show _=_;rw[XD,Qbq,Qbq];exact Int.natCast_inj
 clear hu hN sG mG hm ha hc aY X0 B0 h1 h2 hh hf;go_in;go_upto_region 1 with fail;rw[fD.o];go_quiet ((go_at_call 93;with_reducible exact HBg.o _));go_wp2;go_ret;exact⟨by rw[<-HEq.o];rfl,below_drewN mV.o _⟩
def eG(mb:Nat):Va:= .func (.func 162) #[] #[mb]
def II(hb fb:Nat):Va:= .func (.func 161) #[] #[hb,fb]
structure ql(w:Wo)(hb fb mb half ax:Nat):Prop where
 h:aq w hb 3 [.int .i64 half]
 f:aq w fb 3 [.int .i64 ax]
 m:aq w mb 256 [II hb fb]
 hh:half<256
 hf:ax<256
def ql.on{w w' :Wo}{hb fb mb half ax:Nat}(h:ql w hb fb mb half ax)(EB :ci w w'):ql w' hb fb mb half ax:=⟨h.h.on EB,h.f.on EB,h.m.on EB,h.hh,h.hf⟩
def vG(w:Wo)(e:aD)(hu:bI e.print)(hb fb mb half ax:Nat)(h:ql w hb fb mb half ax):
  Calls prog 162 #[jz e,mb] w (iF (.bool (!cI half ax e)) λw' =>ci w w') :=by
 have⟨R,hR⟩:=eX (cI half ax e);have HM0:=λW0=>Ln W0 e hu hb fb half ax;rw[<-hR] at HM0|-;obtain⟨pr,bk⟩:=e;unfold jz at HM0|-;dsimp only at hu HM0|-;obtain⟨W0,aY,X0,B0⟩:=nW w [ip pr,gc bk] 29;have HM:=aa (HM0 W0 (h.h.on B0) (h.f.on B0) h.hh h.hf);have fD:=aa aY.symm;obtain⟨x0,x1⟩:=gh X0;have y:=(h.m.on B0).j0;have mV:=aa B0;unfold II at y;clear aY X0 B0 h hu hR HM0;go_in;go_upto_region 1 with fail;rw[fD.o];go_wp2_with(go_at_call 161;refine Pe HM.o λW2 B2=> ?_);exact zfg
def vL(w:Wo)(v:Va)(es:List aD)(h:Es w w v es)(hl:es.length<=100000)(hu:∀e∈es,bI e.print)(hb fb mb half ax:Nat)(hs:ql w hb fb mb half ax):
  Calls prog 203 #[v,eG mb] w λr w' =>((∃k:Nat,k<es.length/\r= .returned (ac k)/\(∃e,es[k]? =some e/\cI half ax e=false)/\(∀e∈es.take k,cI half ax e=true))\/r= .returned (ac (-1))/\∀e∈es,cI half ax e=true)/\ci w w' :=by
 obtain⟨A,c,rfl,-,-⟩:=h.1.form;have⟨n,hn⟩:=eX es.length;have H:=aa h;have HS:=aa hs;have Hn:=iJ hn (by omega:n<=100000) hu;rw[<-hn];clear h hl hu hn hs;go_in;go_wp2_with fail;go_loopw [8] (λiv wr=>∃k:Nat,iv= ac k/\Af (k<=n/\(∀e∈es.take k,cI half ax e=true)/\ci w wr)) (λiv _=>n - (intOf iv).toNat)
 .exact zfx
 .obtain⟨k,rfl,HR⟩:=hrel;by_cases hk:k<n
  .have bQ:k<es.length:=(by rw[<-Hn.p1];exact hk);obtain⟨b,o,c',hv,-,-,bO,aH⟩:=H.o.cells (QO lm bQ);obtain rfl:A=some (an b o):=No;obtain⟨q0,q1⟩:=aH k bQ;have⟨x,hx⟩:=eX (es[k]);have oP:es[k]? =some x:=(by rw[hx];exact Qf bQ);rw[<-hx] at q0 q1;have z0:=(HR.q2.cell (p:=an b (o+k*2)) bO).trans q0;have z1:=(HR.q2.cell (p:=an b (o+k*2+1)) bO).trans q1;have HO:=vG wr x (Hn.q2 x (Qi oP)) hb fb mb half ax ⟨HS.o.h.on HR.q2,HS.o.f.on HR.q2,HS.o.m.on HR.q2,HS.o.hh,HS.o.hf⟩;unfold jz at HO;have⟨R,hR⟩:=eX (cI half ax x);rw[<-hR] at HO;have⟨pr,gY⟩:=eX x.print;have⟨bk,ej⟩:=eX x.block;rw[<-gY,<-ej] at HO;rw[<-gY] at z0;rw[<-ej] at z1;have HO:=aa HO;have cU:=aa HR.o;have HX:=iJ oP hR hk;obtain⟨u1,u2,u3⟩:=bR hk Hn.p2 Fd;have Hu:=aa u1;unfold eG;clear hv bO aH q0 q1 hx oP hR gY ej HR hk bQ u1;cases R
   .have HF:=aa (λ(W9:Wo) (b9:ci wr W9)=>Pd cU.q2 b9);go_wp2_with(go_at_call 162;refine HO.o.mono ?_;rintro e W2 ⟨rfl,b2⟩;have B2:=aa b2;clear b2);(all_goals(try rw[Qv]));(all_goals go_ret);all_goals exact⟨.inl ⟨k,HX.q2,rfl,⟨x,HX.p1,HX.p2.symm⟩,cU.p2⟩,HF.o _ B2.o⟩
   .go_wp2_with(go_at_call 162;refine HO.o.mono ?_;rintro e W2 ⟨rfl,b2⟩;have B2:=aa b2;clear b2);refine⟨⟨k+1,yL,HX.q2,λe he=> ?_,Pd cU.q2 B2.o⟩,So⟩;rw[aA es k x HX.p1] at he;obtain he|he:=Qz.1 he
    .exact cU.p2 e he
    .rw[Qx] at he;rw[he];exact HX.p2.symm
  .have cH:=QE HR.p1 (QC hk);have bm:=HR.p2;rw[Qj zaQ] at bm;have HA:=aa bm;have HL:=aa HR.q2;subst cH;clear HR hk bm;go_wp2_with fail;(try rw[Qv]);go_ret;exact⟨.inr ⟨rfl,HA.o⟩,HL.o⟩
def xm(w:Wo)(v:Va)(es:List aD)(h:Es w w v es)(hl:es.length<=100000)(hu:∀e∈es,bI e.print)(hb fb mb half ax:Nat)(hs:ql w hb fb mb half ax):
  Calls prog 165 #[v,eG mb] w (iF (.bool (es.any λe=> !cI half ax e)) λw' =>ci w w') :=by
 have⟨R,hR⟩:=eX (es.any λe=> !cI half ax e);have HI:Af (Calls prog 203 #[v,eG mb] w λr w' =>∃i:Int,r= .returned (ac i)/\decide (0<=i)=R/\ci w w'):=(vL w v es h hl hu hb fb mb half ax hs).mono λr w' ⟨h1,h2⟩=>by
  rcases h1 with⟨k,hk,h3,⟨e,h4,h5⟩,-⟩|⟨h3,h4⟩
  .refine⟨k,h3,?_,h2⟩;rw[hR,Xa (Xh k)];symm;exact Xb.2 ⟨e,Qi h4,by rw[h5];rfl⟩
  .refine⟨-1,h3,?_,h2⟩;rw[hR];symm;show _=false;rw[Xf];intro ha;obtain⟨e,he,h5⟩:=Xb.1 ha;rw[h4 e he] at h5;cases h5
 obtain⟨A,c,rfl,-,-⟩:=h.1.form;have⟨n,hn⟩:=eX es.length;rw[<-hn] at HI|-;rw[<-hR];unfold eG at HI|-;clear h hl hu hs hn hR;go_in;go_wp2_with(go_at_call 203;refine HI.o.mono ?_;rintro e W2 ⟨i,rfl,hi,b2⟩;have B2:=aa b2;clear b2);go_ret;exact⟨rfl,B2.o⟩
def Gc(w:Wo)(s:ay)(ev:Va)(h:Es w w ev s.es)(hl:s.es.length<=9)(hu:∀e∈s.es,bI e.print)(hb fb mb ob half ax:Nat)(hs:ql w hb fb mb half ax)(ho:aq w ob 256 [eG mb]):
  Calls prog 164 #[.agg #[io s.depth,gc s.next,ev],ob] w (iF (.bool (s.es.any λe=> !cI half ax e)) λw' =>ci w w') :=by
 have⟨R,hR⟩:=eX (s.es.any λe=> !cI half ax e);obtain⟨W0,aY,X0,B0⟩:=nW w [io s.depth,gc s.next,ev] 79;have HC:=xm W0 ev s.es ((h.below B0).more B0.size) Mx hu hb fb mb half ax (hs.on B0);rw[<-hR] at HC|-;obtain⟨A,c,rfl,-,-⟩:=h.1.form;have⟨n,hn⟩:=eX s.es.length;rw[<-hn] at HC X0 aY|-;have⟨d,hd⟩:=eX s.depth;have⟨nx,fu⟩:=eX s.next;rw[<-hd,<-fu] at X0 aY|-;have HC:=aa HC;have x2:=X0.j2;have y:=(ho.on B0).j0;unfold eG at HC y;have fD:=aa aY.symm;have mV:=aa B0;clear h hl hu hs ho hR aY X0 B0 hn hd fu;go_in;go_upto_region 1 with fail;rw[fD.o];go_wp2_with(go_at_call 165;refine Pe HC.o λW2 B2=> ?_);exact zfg
def qG(ob:Nat):Va:= .func (.func 164) #[] #[ob]
def Gp(w:Wo)(v:Va)(ps:List (ay×Va))(h:mP w w v ps)(hl:ps.length<=100000)(hu:∀p∈ps,∀e∈p.1.es,bI e.print)(hb fb mb ob half ax:Nat)(hs:ql w hb fb mb half ax)(ho:aq w ob 256 [eG mb]):
  Calls prog 74 #[v,qG ob] w λr w' =>(∃i:Int,r= .returned (ac i)/\decide (0<=i)=ps.any λp=>p.1.es.any λe=> !cI half ax e)/\ci w w' :=by
 obtain⟨A,c,rfl⟩:=h.form;have⟨n,hn⟩:=eX ps.length;have⟨T,hT⟩:=eX (ps.any λp=>p.1.es.any λe=> !cI half ax e);rw[<-hT];have H:=aa h;have HS:=aa hs;have HO:=aa ho;have Hn:=kH hn (by omega:n<=100000) hu hT;rw[<-hn];unfold qG;clear h hl hu hn hs ho hT;go_in;go_wp2_with fail;go_loopw [8] (λiv wr=>∃k:Nat,iv= ac k/\Af (k<=n/\(∀p∈ps.take k,(p.1.es.any λe=> !cI half ax e)=false)/\ci w wr)) (λiv _=>n - (intOf iv).toNat)
 .exact zfx
 .obtain⟨k,rfl,HR⟩:=hrel;by_cases hk:k<n
  .obtain⟨p,hp⟩:∃p,ps[k]? =some p:=⟨_,Qf (by rw[<-Hn.p1];exact hk)⟩;have hS:=H.o.below HR.q2;obtain⟨b,o,c',hv,bO,z0,z1,z2⟩:=hS.cells hp;obtain rfl:A=some (an b o):=(by injection hv);have eE:=hS.es p (Qi hp);have AZ:=Gc wr p.1 p.2 (eE.1.more HR.q2.size) eE.2.2.2 (Hn.p3 p (Qi hp)) hb fb mb ob half ax (HS.o.on HR.q2) (HO.o.on HR.q2);have⟨R,hR⟩:=eX (p.1.es.any λe=> !cI half ax e);rw[<-hR] at AZ;obtain⟨Ae,ce,hU,-,-⟩:=eE.1.1.form;have⟨L,hL⟩:=eX p.1.es.length;rw[<-hL] at hU;rw[hU] at z2 AZ;have⟨d,hd⟩:=eX p.1.depth;have⟨nx,fu⟩:=eX p.1.next;rw[<-hd] at z0 AZ;rw[<-fu] at z1 AZ;have WY:=aa AZ;have cU:=aa HR.o;have HX:=iJ hp hR hk;obtain⟨u1,u2,u3⟩:=bR hk Hn.p2 Fd;have Hu:=aa u1;clear hv bO hS hp eE AZ hR hU hL hd fu HR hk u1;cases R
   .go_wp2_with(go_at_call 164;refine WY.o.mono ?_;rintro e W2 ⟨rfl,b2⟩;have B2:=aa b2;clear b2);refine⟨⟨k+1,yL,⟨HX.q2,λq hq=> ?_,Pd cU.q2 B2.o⟩⟩,So⟩;rw[aA ps k p HX.p1] at hq;obtain hq|hq:=Qz.1 hq
    .exact cU.p2 q hq
    .rw[Qx] at hq;rw[hq];exact HX.p2.symm
   .have HTt:Af (decide ((0:Int)<=k)=T):=(by show _=_;rw[Hn.q3,Xa (Xh k)];symm;exact Xb.2 ⟨p,Qi HX.p1,HX.p2.symm⟩);go_wp2_with(go_at_call 164;refine WY.o.mono ?_;rintro e W2 ⟨rfl,b2⟩;have B2:=aa b2;clear b2);(all_goals(try rw[Qv]));(all_goals go_ret);all_goals exact⟨⟨k,rfl,HTt.o⟩,Pd cU.q2 B2.o⟩
  .have cH:=QE HR.p1 (QC hk);have bm:=HR.p2;rw[Qj zaQ] at bm;have HTf:Af (decide ((0:Int)<= -1)=T):=(by show _=_;rw[Hn.q3];symm;exact zfe);have HL:=aa HR.q2;subst cH;clear HR hk bm;go_wp2_with fail;(try rw[Qv]);exact zfu
def xj(w:Wo)(v:Va)(ps:List (ay×Va))(h:mP w w v ps)(hl:ps.length<=100000)(hu:∀p∈ps,∀e∈p.1.es,bI e.print)(hb fb mb ob half ax:Nat)(hs:ql w hb fb mb half ax)(ho:aq w ob 256 [eG mb]):
  Calls prog 25 #[v,qG ob] w (iF (.bool (ps.any λp=>p.1.es.any λe=> !cI half ax e)) λw' =>ci w w') :=by
 have⟨R,hR⟩:=eX (ps.any λp=>p.1.es.any λe=> !cI half ax e);have HI:=Gp w v ps h hl hu hb fb mb ob half ax hs ho;rw[<-hR] at HI|-;have HI:=aa HI;obtain⟨A,c,rfl⟩:=h.form;have⟨n,hn⟩:=eX ps.length;rw[<-hn] at HI|-;unfold qG at HI|-;clear h hl hu hs hn hR ho;exact zew
variable{es:List aD}{i k e sz g c:Nat}{x:aD}{xs:Ox}
section
def zfV(h:w.ownsRow base e sz (el g 0 n c) n xs)(j:Nat)(u:Va):(w.setCell (an g j) u).ownsRow base e sz (el g 0 n c) n (xs.set j u):=by
 obtain⟨hl,h1⟩:=h;refine⟨by rw[Zy];exact hl,.inr ?_⟩;rcases h1 with⟨h2,_⟩|⟨g',cap,cur,h2,hb,hh,hn,hm,hs,ht⟩
 .cases h2
 .cases h2;have aJ:=(Qy.1 hh).1;have h' :w.heap[g]= .cells cur e (0,0):=by simpa[Xu aJ] using hh
  refine⟨g,c,cur.setIfInBounds j u,rfl,hb,?_,hn,hm,by rw[Array.size_setIfInBounds];exact hs,?_⟩
  .exact zeu
  .rw[Qfd,Qet,ht]
def Je(h:w.ownsRow base e sz (el g 0 n c) n xs)(i:Nat)(hi:i<=n):w.ownsRow base e sz (el g 0 i c) i (xs.take (i*sz)):=by
 obtain⟨hl,h1⟩:=h;have hm' :=Qes sz hi;refine⟨by rw[Qu,hl];exact Zh hm',.inr ?_⟩;rcases h1 with⟨h2,_⟩|⟨g',cap,cur,h2,hb,hh,hn,hm,hs,ht⟩
 .cases h2
 .cases h2;exact⟨g,c,cur,rfl,hb,hh,Qh hi hn,hm,hs,by rw[<-ht,Qds,Zh hm']⟩
end
def CO:∀(es:List aD) (i:Nat) (x:aD),i<es.length->((es.flatMap dC).set (i*2) (ip x.print)).set (i*2+1) (gc x.block)=(es.set i x).flatMap dC
 |[],_,_,h=>zaF
 |a::r,0,x,_=>rfl
 |a::r,i+1,x,h=>by have h1:=CO r i x EQ;rw[Qc,QH,QH,<-h1,show(i+1)*2=i*2+1+1 by omega,show i*2+1+1+1=(i*2+1)+1+1 by omega];rfl
def Rj{w:Wo}{base g n c:Nat}(h:cV w base (el g 0 n c) es)(hn:n=es.length)(i:Nat)(hi:i<n)(x:aD):cV ((w.setCell (an g (i*2)) (ip x.print)).setCell (an g (i*2+1)) (gc x.block)) base (el g 0 n c) (es.set i x):=by unfold cV at h|-;rw[<-hn] at h;rw[Zy,<-hn,<-CO es i x Mx];exact zfV (zfV h _ _) _ _
def rZ(es:List aD)(i:Nat):(es.flatMap dC).take (i*2)=(es.take i).flatMap dC:=by
 induction es generalizing i with
 |nil=>simp
 |cons a r ih=>
  cases i with
  |zero=>simp
  |succ i=>
   rw[Zw,QH,QH,<-ih i,show(i+1)*2=i*2+1+1 by omega];rfl
def Rk{w:Wo}{base g n c:Nat}(h:cV w base (el g 0 n c) es)(hn:n=es.length)(i:Nat)(hi:i<=n):cV w base (el g 0 i c) (es.take i):=by unfold cV at h|-;rw[<-hn] at h;rw[Qu,Zh Mx,<-rZ];exact Je h i hi
def GX{w:Wo}{base g n c:Nat}(h:cV w base (el g 0 n c) es)(hn:n=es.length)(i:Nat)(hi:i<=n)(c' :Nat)(ty:Fy):
  ∃w',(Builtin.clear_ #[77] ty #[el g (i*2) (n - i) c']).run prog w= .ok (.tuple #[]) w'/\cV w' base (el g 0 i c) (es.take i)/\w.grownBy w' (some g):=by
 obtain he|aJ:=Nat.eq_or_lt_of_le hi
 .subst he;refine⟨w,?_,Rk h hn i go,⟨rfl,rfl,rfl,go,λ_ _ _=>rfl⟩⟩;rw[XE];simp[Builtin.clear_,Qax underlying77]
 .have h0:=h;unfold cV at h;rw[<-hn] at h;obtain⟨hl,h1⟩:=h;rcases h1 with⟨h2,_⟩|⟨g',cap,cur,h2,hb,hh,yW,hm,hs,ht⟩
  .cases h2
  .cases h2;have JC:(Builtin.zeroCells #[ip 0,gc 0] (n - i)).toList.length=(n - i)*2:=(by simp[Builtin.zeroCells]);have mM:∀v∈(Builtin.zeroCells #[ip 0,gc 0] (n - i)).toList,v.oneCell' =true:=(by intro v hv;simp[Builtin.zeroCells] at hv;obtain⟨q,-,rfl⟩:=hv;have h5:q%2=0\/q%2=1:=Mx;obtain h5|h5:=h5<;>rw[h5]<;>rfl);generalize hZ:(Builtin.zeroCells #[ip 0,gc 0] (n - i)).toList=Z at*;have cz:i*2+0+Z.length<=cur.size:=(by rw[JC,hs];omega);have cO:=Qhu (P:=prog) g (i*2) 29 Z 0 cur w hh cz mM;simp only[XC] at cO;have hh' :=Qha w g cur (cur.toList.take (i*2)++Z++cur.toList.drop (i*2+Z.length)).toArray _ _ hh;refine⟨w.setRow g (cur.toList.take (i*2)++Z++cur.toList.drop (i*2+Z.length)).toArray,?_,?_,⟨rfl,rfl,rfl,?_,λk _ hk=>Qhw w g k _ (λe=>hk zbl)⟩⟩
   .obtain⟨m,Nf⟩:∃m,n - i=m+1:=⟨n - i - 1,Mx⟩;have hzv:∀w,(zeroValue 29).run prog w= .ok (.agg #[ip 0,gc 0]) w:=λw=>(by kernel_rfl);rw[Nf] at hZ|-;simp[Builtin.clear_,Qax underlying77,hzv,show(Value.agg #[ip 0,gc 0]).cells= #[ip 0,gc 0] from rfl,hZ,cO]
   .have oJ:(es.take i).length=i:=(by rw[Qu];omega);rw[cV,oJ,<-rZ,<-ht];have iH:i*2<=cur.toList.length:=(by rw[Qdz,hs];omega);refine⟨?_,.inr ⟨g,c,_,rfl,hb,hh',Mx,hm,?_,?_⟩⟩
    .rw[Qds,Qu,Qdz,hs];omega
    .rw[QW,Qo,Qo,Qu,Zt,Qdz,hs,JC];omega
    .rw[QY,Qde zcK,Qds,Nat.min_self,Qds,Zh Mx]
   .exact zfK
def jN{w:Wo}{base e sz n g c:Nat}{xs:Ox}(h:w.ownsRow base e sz (el g 0 n c) k xs)(j:Nat):w.frozen? (an g j)=false:=by
 obtain⟨-,h1⟩:=h;rcases h1 with⟨h2,_⟩|⟨g',cap,cur,h2,hb,hh,_⟩
 .cases h2
 .cases h2;simp[World.frozen?,hh]
def Gb{w:Wo}{base g n c:Nat}(h:cV w base (el g 0 n c) es)(hi:i<es.length):∃x,jp w g (i*2) x:=by obtain⟨b9,o9,c9,Ea,-,-,Nb⟩:=(Sl.bU h:Sl w w 2 _ es.length _).row Mx;injection Ea with q1;injection q1 with q1;injection q1 with q2 q3;subst q2 q3;have:=Nb.2 (i*2+0) _ ((jQ es i hi 0 Fd).trans rfl);exact⟨_,zdO⟩
def Ga{w:Wo}{base g n c:Nat}(h:cV w base (el g 0 n c) es)(hi:i<es.length):∃x,jp w g (i*2+1) x:=by obtain⟨b9,o9,c9,Ea,-,-,Nb⟩:=(Sl.bU h:Sl w w 2 _ es.length _).row Mx;injection Ea with q1;injection q1 with q1;injection q1 with q2 q3;subst q2 q3;have:=Nb.2 (i*2+1) _ ((jQ es i hi 1 Fd).trans rfl);exact⟨_,zdO⟩
structure UX(w:Wo)(base g n c hb fb mb half ax:Nat)(l:List aD)(j i:Nat)(wr:Wo):Prop where
 jn:j<=n
 ij:i<=j
 row:∃oT,cV wr base (.slice (some ⟨g,0,none⟩) n c) oT/\oT.length=n/\oT.take i=(l.take j).filter (cI half ax)/\oT.drop j=l.drop j
 side:ql wr hb fb mb half ax
 low:Below base w wr
def wZ(h:i<es.length):(es.set i x).take (i+1)=es.take i++[x]:=by rw[aA (es.set i x) i x (by rw[Qbl];simp[h]),Qet];congr 1;rw[Qiv];rw[Qu];omega
def abV{w:Wo}{base:Nat}{v:Va}(h:cV w base v l)(hl:0<l.length):∃g c,v= el g 0 l.length c/\base<=g/\g<w/\l.length<=c:=by
 have h' :=h;have hx:∃g c,v= el g 0 l.length c:=by unfold cV at h';exact zey
 obtain⟨g,c,rfl⟩:=hx;have h2:=Xr h g rfl;refine⟨g,c,rfl,h2.1,h2.2,?_⟩;obtain⟨-,⟨h3,_⟩|⟨g',cap,cur,h3,_,_,h4,_⟩⟩:=h
 .cases h3
 .cases h3;exact h4
def yF(p:aD->Bool):∀l:List aD,(¬∀e∈l,p e=true)->∃k x,l[k]? =some x/\p x=false/\∀e∈l.take k,p e=true
 |[],h=>absurd (λe he=>zbs) h
 |a::r,h=>by
  cases ha:p a with
  |false=>exact⟨0,a,rfl,ha,λe he=>zbs⟩
  |true=>
   obtain⟨k,x,h1,h2,h3⟩:=yF p r (λh4=>h (λe he=>by
    obtain rfl|he:=QA.1 he
    .exact ha
    .exact h4 e he))
   refine⟨k+1,x,h1,h2,λe he=> ?_⟩;rw[Zw] at he;obtain rfl|he:=QA.1 he
   .exact ha
   .exact h3 e he
def LQ{p:aD->Bool}{k' :Nat}{x' :aD}(h1:l[k]? =some x)(h2:p x=false)(h3:∀e∈l.take k,p e=true)(g1:l[k']? =some x')(g2:p x' =false)(g3:∀e∈l.take k',p e=true):k=k' :=by
 obtain h|h|h:=Qbt k k'
 .exact zfd
 .exact h
 .exact zfb
def DM(w:Wo)(base:Nat)(v:Va)(l:List aD)(h:cV w base v l)(jr:base<=w.heap.size)(hl:l.length<=9)(ho:∀e∈l,eR e)(hb fb mb half ax:Nat)(hs:ql w hb fb mb half ax):
  Calls prog 163 #[v,eG mb] w λr w' =>∃v',r= .returned v'/\cV w' base v' (l.filter (cI half ax))/\Below base w w' :=by
 have Iw:Es w w v l:=⟨Sl.bU h,ho⟩;have hI:=vL w v l Iw Mx (λe he=>(ho e he).1) hb fb mb half ax hs;have HS:=aa hs;have HH:=aa h;obtain⟨A,c,hv⟩:=h.form;have⟨n,hn⟩:=eX l.length;rw[<-hn] at hv;have Hn:=kH hn (by omega:n<=9) jr ho;subst hv;by_cases bm:∀e∈l,cI half ax e=true
 .have HI:Af (Calls prog 203 #[am A n c,eG mb] w (iF (ac (-1)) λw' =>ci w w')):=hI.mono λr w' ⟨h1,h2⟩=>by
   rcases h1 with⟨k,hk,h3,⟨e,h4,h5⟩,-⟩|⟨h3,h4⟩
   .rw[bm e (Qi h4)] at h5;cases h5
   .exact⟨h3,h2⟩
  have HF:=aa (List.filter_eq_self.2 bm);unfold eG at HI|-;clear h Iw hl ho hs hn jr hI bm;go_in;go_wp2_with(go_at_call 203;refine Pe HI.o λW2 B2=> ?_);try rw[Qv]
  go_ret;exact⟨_,rfl,by rw[HF.o];exact aS HH.o B2.o,B2.o.mono Hn.p3⟩
 .obtain⟨k,x,h1,h2,h3⟩:=yF _ l bm;have bQ:=(Ql.1 h1).1;obtain⟨g,c',hv,Np,hgw,ZP⟩:=abV h (QO lm bQ);rw[<-hn] at hv ZP;obtain⟨rfl,rfl⟩:A=some (ol g)/\c=c' :=by injection hv with e1 _ e3;exact⟨e1,e3⟩
  have HI:Af (Calls prog 203 #[el g 0 n c,eG mb] w (iF (ac k) λw' =>ci w w')):=hI.mono λr w' ⟨q1,q2⟩=>by
   rcases q1 with⟨k',hk,q3,⟨e,q4,q5⟩,q6⟩|⟨q3,q4⟩
   .rw[LQ h1 h2 h3 q4 q5 q6];exact⟨q3,q2⟩
   .exact absurd q4 bm
  have TE:(l.take (k+1)).filter (cI half ax)=l.take k:=zbg;have rj:Af (∀W,ci w W->UX w base g n c hb fb mb half ax l (k+1) k W):=λW hW=>⟨by rw[Hn.p1];exact bQ,Q0 k,⟨l,aS h hW,hn.symm,TE.symm,rfl⟩,hs.on hW,hW.mono jr⟩;have Hg:=kH Np hgw ZP (by rw[hn];exact bQ:k<n);have k0:((k:Int)== -1)=false:=Xc Mx;have k9:k<=9:=by rw[<-hn] at bQ;omega
  have kw:IntKind.i64.wrap ((k:Int)+1)=(k:Int)+1:=UV;unfold eG at HI|-;clear h Iw hl ho hs hn jr hI bm h1 h2 h3 bQ hv Np hgw ZP TE k9;go_in;go_wp2_with(go_at_call 203;refine Pe HI.o λW2 B2=> ?_);have S2:=aa (rj.o W2 B2.o);clear k0 kw rj HI HH;go_loopw [6,5] (λjv iv wr=>∃j i:Nat,jv= ac j/\iv= ac i/\Af (UX w base g n c hb fb mb half ax l j i wr)) (λjv _ _=>n - (intOf jv).toNat)
  .exact⟨k+1,k,by rw[Int.natCast_succ],rfl,S2.o⟩
  .obtain⟨j,i,rfl,rfl,HD⟩:=hrel;by_cases hj:j<n
   .obtain⟨oT,r1,r2,r3,r4⟩:=HD.o.row;obtain⟨y,hy⟩:∃y,l[j]? =some y:=⟨_,Qf (by rw[<-Hn.p1];exact hj)⟩;have hy' :oT[j]? =some y:=(by have q1:=XF (λz=>z[0]?) r4;simpa[Zb,hy] using q1);have hyo:=Hn.q3 y (Qi hy);have r1' :=r1;unfold cV at r1';rw[r2] at r1';have dL:=(Sl.bU r1' :Sl wr wr 2 _ n _).row Mx;obtain⟨b9,o9,c9,Ea,-,-,Nb⟩:=dL;obtain⟨e1,e2⟩:g=b9/\0=o9:=zaj;subst e1 e2;obtain⟨wI,hje⟩:=Ql.1 hy';have z0:jp wr g (j*2) (ip y.print):=(by have q1:=Nb.2 (j*2+0) _ ((jQ oT j wI 0 Fd).trans (by rw[hje];rfl));simpa using q1);have z1:jp wr g (j*2+1) (gc y.block):=(by have q1:=Nb.2 (j*2+1) _ ((jQ oT j wI 1 Fd).trans (by rw[hje];rfl));simpa using q1);have⟨R,hR⟩:=eX (cI half ax y);have⟨pr,gY⟩:=eX y.print;have⟨bk,ej⟩:=eX y.block;obtain⟨W5,j6,Y5,b5⟩:=nW wr [ip pr,gc bk] 29;have⟨eb,mR⟩:=eX wr.heap.size;rw[<-mR] at Y5;have HO:=vG W5 y hyo.1 hb fb mb half ax (HD.o.side.on b5);unfold jz at HO;rw[<-gY,<-ej,<-hR] at HO;rw[<-gY] at z0;rw[<-ej] at z1;have HO:=aa HO;have zb:=dK j6.symm mR.symm;have HY5:=aa Y5;obtain⟨v0,v1⟩:=gh Y5;have NQ:=aa HD.o;have jh:=kH r1 r2 r3 r4;have HX:=hI7 hy hR hj gY ej HD.o.ij (by rw[mR];exact(Xr r1 g rfl).2:g<eb);obtain⟨u1,u2,u3⟩:=bR hj Hn.p2 Fd;have i0:=Xh i;have iN:(i:Int)<n:=(by have:=HD.o.ij;omega);have iw:IntKind.i64.wrap ((i:Int)+1)=(i:Int)+1:=zbQ;clear r1 r2 r3 r4 hy hy' hyo r1' Nb Ea wI hje hR gY ej Y5 j6 mR HD hj;change Af _ at b5 u1;go_upto_region 8 with fail;rw[zb.p1,zb.q1];clear z0 z1;cases R
    .have hN:∀W9,ci W5 W9->UX w base g n c hb fb mb half ax l (j+1) i W9:=λW9 b9=>by
      have bb:=Pd b5.o b9;refine⟨HX.p3,XK HX.p6,⟨oT,aS jh.p1 bb,jh.p2,?_,?_⟩,NQ.o.side.on bb,NQ.o.low.trans (bb.mono (Qh Hg.p1 (QX (Xr jh.p1 g rfl).2)))⟩
      .rw[jh.p3,aA l j y HX.p1,Qbh];simp[<-HX.p2]
      .rw[<-Qav,jh.q3,Qav]
     have HN:=aa hN;clear hN;go_wp2_with(go_at_call 162;refine Pe HO.o λW9 B9=> ?_);exact⟨⟨j+1,i,Nm,rfl,HN.o _ B9.o⟩,zbF⟩
    .have hN:∀W9,ci W5 W9->cV W9 base (el g 0 n c) oT/\ci wr W9:=λW9 b9=>⟨aS jh.p1 (Pd b5.o b9),Pd b5.o b9⟩;have HN:=aa hN;have hM:∀W9,ci W5 W9->UX w base g n c hb fb mb half ax l (j+1) (i+1) (rc (rc W9 g (i*2) (ip pr)) g (i*2+1) (gc bk)):=λW9 b9=>by
      have hil:i<oT.length:=(by rw[jh.p2];exact QO HX.p6 HX.p3);obtain⟨o9,bb⟩:=HN.o W9 b9;have o10:=Rj o9 jh.p2.symm i (by rw[<-jh.p2];exact hil) y;rw[<-HX.p4,<-HX.p5] at o10;have sd:=NQ.o.side.on bb;have n1:∀x,x<wr.heap.size->True:=λ_ _=>trivial;have bT:∀{T:Fy} {cs:Ox} {q:Nat},aq W9 q T cs->T≠29->q≠g:=λhB hT e=>by subst e;exact aq.not_row hB hT o9 rfl
      refine⟨HX.p3,Qdc HX.p6,⟨oT.set i y,o10,by rw[Zy];exact jh.p2,?_,?_⟩,⟨(sd.h.az (p:=an g (i*2)) (bT sd.h Fd) _).az (p:=an g (i*2+1)) (bT sd.h Fd) _,(sd.f.az (p:=an g (i*2)) (bT sd.f Fd) _).az (p:=an g (i*2+1)) (bT sd.f Fd) _,(sd.m.az (p:=an g (i*2)) (bT sd.m Fd) _).az (p:=an g (i*2+1)) (bT sd.m Fd) _,sd.hh,sd.hf⟩,
       ((NQ.o.low.trans (bb.mono (Qh Hg.p1 (QX (Xr jh.p1 g rfl).2)))).setCell (p:=an g (i*2)) Hg.p1 _).setCell (p:=an g (i*2+1)) Hg.p1 _⟩
      .rw[wZ hil,jh.p3,aA l j y HX.p1,Qbh];simp[<-HX.p2]
      .rw[Qfa (by have:=HX.p6;omega),<-Qav,jh.q3,Qav]
     have HM:=aa hM;have HIl:Af (i<oT.length):=(by show _<_;rw[jh.p2];exact QO HX.p6 HX.p3);clear hN hM;go_wp2_with(go_at_call 162;refine PF HO.o λW9 b9=> ?_;have B9:=aa b9;have w0:=(HY5.o.on b9).j0;have w1:=(HY5.o.on b9).j1;obtain⟨x0,gd⟩:=Gb (HN.o _ b9).1 HIl.o;obtain⟨x1,xx⟩:=Ga (HN.o _ b9).1 HIl.o;have g0:=jN (HN.o _ b9).1 (i*2);have g1:=jN (HN.o _ b9).1 (i*2+1);clear b9);exact⟨⟨j+1,i+1,Nm,zbv,HM.o _ B9.o⟩,zbF⟩
   .have tC:=QE HD.o.jn (QC hj);obtain⟨oT,r1,r2,r3,r4⟩:=HD.o.row;have ph:i<=n:=(by rw[<-tC];exact HD.o.ij);obtain⟨w6,ZK,h6,g6⟩:=GX r1 r2.symm i ph (c - i) 0;have zm:oT.take i=l.filter (cI half ax):=zcE;have HL:=aa HD.o.low;have Hgr:=aa (Qh Hg.p1 (QX (Xr r1 g rfl).2));have i0:=Xh i;have iN:=Int.ofNat_le.2 ph;have nc:=Int.ofNat_le.2 Hg.p3;have ic:=Int.le_trans iN nc;subst tC;clear HD hj r1 r2 r3 r4;change Af _ at zm h6 g6;have mZ:=dK (by rw[<-zm.o];exact h6.o:cV w6 base (el g 0 i c) (l.filter (cI half ax))) (HL.o.grown g6.o Hgr.o (λj e=>by cases(Qr e);exact Hg.p1));by_cases hci:c=i
    .have wJ:=QE ph (by rw[<-hci];exact Hg.p3);subst wJ;rw[XE] at ZK;have oI:∀(A:GB) (q:Nat),(Builtin.clear_ #[77] 0 #[am A 0 q]).run prog wr= .ok (.tuple #[]) wr:=λA q=>(by cases A<;>simp[Builtin.clear_,Qax underlying77]);have hw6:w6=wr:=(by have h1:=ZK;rw[oI] at h1;injection h1 with _ h1;exact h1.symm);subst hw6;have mM:=oI (some (ol g)) 0;subst hci;clear oI ZK;go_wp2;(try rw[Qv]);exact zeZ
    .go_wp2;(try rw[Qv]);exact zeZ
variable{B b o:Nat}{T:FV}
def I9(h:Sl w B sz (el b o (n+1) c) (n+1) xs):
  (c≠1->Sl w B sz (el b (o+sz) n (c - 1)) n (xs.drop sz))/\(c=1->n=0/\Sl w B sz (el b o 0 0) 0 (xs.drop sz)):=by
 obtain⟨hl,A,c',hv,hc,hm,-,hr⟩:=h;cases hv;obtain⟨b',o',he,dL⟩:=hr (Qfz n);cases he;have oR:(xs.drop sz).length=n*sz:=by rw[Zt,hl,Nat.succ_mul];omega
 constructor
 .intro _;exact kT oR Mx Mx ⟨dL.1,λq u hu=>by rw[Zb] at hu;rw[XB];exact dL.2 _ _ hu⟩
 .intro h1;have hn:n=0:=by omega
  subst hn;have N4:xs.drop sz=[]:=Zf Mx;rw[N4];exact⟨rfl,⟨Sv,_,0,rfl,go,lm,(λ_=>rfl),λh=>absurd h Fd⟩⟩
def Jg{x:Int}{r:Fr}(h:Ns w B .i64 (el b o n c) (x::r))(hn:n=r.length+1):(c≠1->Ns w B .i64 (el b (o+1) (n - 1) (c - 1)) r)/\(c=1->Ns w B .i64 (el b o 0 0) r):=by subst hn;have h1:=I9 (sz:=1) (n:=r.length) h;refine⟨λhc=>h1.1 hc,λhc=> ?_⟩;obtain⟨h2,h3⟩:=h1.2 hc;rw[Ns,h2];exact h3
def Cf{p:ay×Va}{r:List (ay×Va)}(h:mP w B (el b o n c) (p::r))(hn:n=r.length+1):(c≠1->mP w B (el b (o+3) (n - 1) (c - 1)) r)/\(c=1->mP w B (el b o 0 0) r):=by subst hn;have h1:=I9 (sz:=3) (n:=r.length) h.sl;have he:∀q∈r,Es w B q.2 q.1.es/\pC q.1:=λq hq=>h.es q (Qs _ hq);refine⟨λhc=>⟨h1.1 hc,he⟩,λhc=> ?_⟩;obtain⟨h2,h3⟩:=h1.2 hc;refine⟨?_,he⟩;rw[h2];exact h3
def nk{m:Nat}{A:GB}(h:Sl w B sz (am A n c) m xs):m<=c:=by obtain⟨-,A',c',hv,hc,-⟩:=h;injection hv with _ _ h3;rw[h3];exact hc
def rG{o' n' c' :Nat}(h:Ap S (el b o n c))(hn:0<n):Ap S (el b o' n' c'):=jD (h b o n c hn rfl)
def iP.aL(h:iP w S v ps)(hc:aG T w w')(hT:∀x,T x->S x):iP w' S v ps:=
 ⟨⟨Sl.more (Sl.aL h.s.sl hc go (h.a.mono hT)) hc.size,λp hp=>⟨⟨Sl.more (Sl.aL (h.s.es p hp).1.1 hc go ((h.e p hp).mono hT)) hc.size,(h.s.es p hp).1.2⟩,(h.s.es p hp).2⟩⟩,h.a,h.e⟩
def jw.aL{c:ak}(h:jw w S v c)(hc:aG T w w')(hT:∀x,T x->S x):jw w' S v c:=by obtain⟨bv,sv,ps,e,h1,h2,h3,h4⟩:=h.ex;exact⟨bv,sv,ps,e,Sl.more (Sl.aL h1 hc go (h2.mono hT)) hc.size,h2,h3.aL hc hT,h4⟩
def iP.mono(h:iP w S v ps)(hT:∀x,T x->S x):iP w T v ps:=⟨h.s,h.a.mono hT,λp hp=>(h.e p hp).mono hT⟩
def jw.mono{c:ak}(h:jw w S v c)(hT:∀x,T x->S x):jw w T v c:=by obtain⟨bv,sv,ps,e,h1,h2,h3,h4⟩:=h.ex;exact⟨bv,sv,ps,e,h1,h2.mono hT,h3.mono hT,h4⟩
def iP.apart(h:iP w S v ps)(hT:∀x,T x->S x\/w<=x):iP w T v ps:=⟨h.s,Sl.apart h.s.sl h.a hT,λp hp=>Sl.apart (h.s.es p hp).1.1 (h.e p hp) hT⟩
def vj(w:Wo)(g:Nat)(y0 y1 y2 y3:Va):aG (λx=>x=g) w ((((w.setCell (ol g) y0).setCell (an g 1) y1).setCell (an g 2) y2).setCell (an g 3) y3):=by have c0:aG (λx=>x=g) w w:=aG.refl _ _;exact(((c0.setCell (p:=ol g) (λ_=>rfl) y0).setCell (p:=an g 1) (λ_=>rfl) y1).setCell (p:=an g 2) (λ_=>rfl) y2).setCell (p:=an g 3) (λ_=>rfl) y3
structure xJ(w:Wo)(S:FV)(xb hb half:Nat)(bv sv:Va)(c:ak)(ps:List (ay×Va)):Prop where
 x:aq w xb 72 [.int .i64 c.ax,.int .i64 c.depth,bv,sv]
 h:aq w hb 3 [.int .i64 half]
 b:Ns w w .i64 bv c.blocks
 ba:Ap S bv
 s:iP w S sv ps
 p:ps.map Prod.fst=c.ah
def xJ.on{xb hb half:Nat}{bv sv:Va}{c:ak}(h:xJ w S xb hb half bv sv c ps)(EB :ci w w'):xJ w' S xb hb half bv sv c ps:=
 ⟨h.x.on EB,h.h.on EB,dU h.b EB,h.ba,h.s.on EB,h.p⟩
def xT(w:Wo)(S:FV)(hS:∀x,S x->x<w.heap.size)(c:ak)(hc:ur c)(qc:c.depth<8)(xb hb half ax:Nat)(bv sv:Va)(ps:List (ay×Va))(h:xJ w S xb hb half bv sv c ps)(cC:c.blocks.length<=4096)(hh:half<256)(hf:ax<256):
  Calls prog 160 #[ac ax,hb,xb] w λe w' =>∃v,e= .returned v/\jw w' S v (fR c half ax)/\ci w w' :=by
 obtain⟨sh,shr,b0,br,ta,fg,e8,EC,Bq⟩:=hc.cons;obtain⟨Ab,cb,rfl,-,-⟩:=h.b.form;obtain⟨As,cs,rfl⟩:=h.s.s.form;have dh:ps.length=c.ah.length:=by rw[<-h.p,Qq]
 have jX:c.blocks.length=ps.length:=zcP;have⟨n,hn⟩:=eX ps.length;rw[jX,<-hn] at h cC;cases ps with
 |nil=>rw[ta] at dh;simp at dh
 |cons p0 pr=>
 obtain⟨bb,ob,ug,oQ,-,-,bO,-⟩:=h.b.cells zdw;obtain rfl:Ab=some (an bb ob):=zdH;obtain⟨bs,os,ks,Na,iV,s0,s1,s2⟩:=h.s.s.cells (k:=0) (p:=p0) rfl;obtain rfl:As=some (an bs os):=zdI;rw[Xz,XC] at s0 s1 s2;have tA:p0.1=sh:=by have h1:=h.p;rw[ta] at h1;exact(List.cons.inj h1).1
 have gY:pr.map Prod.fst=shr:=by have h1:=h.p;rw[ta] at h1;exact(List.cons.inj h1).2
 have eE:=h.s.s.es p0 (Qm ..);rw[tA] at eE;obtain⟨Ae,ce,hU,-,-⟩:=eE.1.1.form;have⟨ne,bT⟩:=eX sh.es.length;rw[<-bT] at hU;rw[hU] at s2 eE;have HI:Af ((∀x,S x->x<w.heap.size)/\ur c/\c.depth<8/\half<256/\ax<256/\n<=4096/\c.ah=sh::shr/\c.blocks=b0::br/\br.length=shr.length/\c.first=sh.es/\n=pr.length+1/\pr.map Prod.fst=shr/\n=br.length+1):=⟨hS,hc,qc,hh,hf,cC,ta,fg,e8,Bq,by rw[hn];rfl,gY,by rw[hn,<-jX,fg];rfl⟩;obtain⟨S2,SS⟩:∃S2:Nat->Prop,S2=λx=>S x\/w.heap.size<=x:=⟨_,rfl⟩;have j2:Af (∀x,S2 x↔(S x\/w.heap.size<=x)):=by intro x;rw[SS]
 have HX:Af (xJ w S2 xb hb half (el bb ob n cb) (el bs os n cs) c (p0::pr)):=⟨h.x,h.h,h.b,Sl.apart h.b h.ba (λx hx=>(j2.o x).1 hx),h.s.apart (λx hx=>(j2.o x).1 hx),h.p⟩;clear SS;obtain⟨W0,aY,F0,B0⟩:=nW w [ac ax] 3;have lz:W0.heap.size=w.heap.size+1:=zbf;obtain⟨W1,aW,R1,B1⟩:=nW W0 [ac 0,ac 0,(),()] 72;have⟨rb,ft⟩:=eX (w.heap.size+1);rw[lz,<-ft] at R1;have fI:=Pd B0 B1;have F1:=F0.on B1;have fD:=aa aY.symm;have gB:=dK aW.symm ft.symm;have HF1:=aa F1;have pX:=aa R1;have wP:=aa fI;have wD:Af (w.heap.size<rb):=by show _<_;rw[ft];exact XL _
 clear hS hc qc hh hf ta fg e8 EC Bq cC dh jX hn oQ Na tA gY hU aY lz aW ft F0 B0 R1 B1 fI F1 h;have Oj:=kH eE.2.2.2 bT bO iV;have ahl:=aa eE.1;clear eE bT bO iV;have EH:=aa s2;clear s0 s1 s2;go_in;go_upto_region 1 with fail;rw[fD.o,gB.p1];try rw[gB.q1]
 go_upto_region 2 with fail;obtain⟨W2,cE,M2,b2⟩:=nW W1 [II hb w.heap.size] 256;have⟨mb,tB⟩:=eX W1.heap.size;rw[<-tB] at M2;change Code.wp _ _ _ _ (W1.alloc (.cells #[II hb w.heap.size] 256));rw[<-cE,<-tB];have Uu:=Pd wP.o b2;have UU:ql W2 hb w mb half ax:=⟨HX.o.h.on Uu,HF1.o.on b2,M2,HI.p4,HI.p5⟩;have UU:=aa UU;have fF:=aa (pX.o.on b2);have px:=aa Uu;clear b2 M2 cE tB Uu HF1 pX wP fD gB;go_upto_region 3 with fail;obtain⟨W3,cD,M3,b3⟩:=nW W2 [eG mb] 256;have⟨qb,hqb⟩:=eX W2.heap.size;rw[<-hqb] at M3;change Code.wp _ _ _ _ (W2.alloc (.cells #[eG mb] 256));rw[<-cD,<-hqb];have pw:=aa (Pd px.o b3);have ahg:=aa (UU.o.on b3);have IC:=aa (fF.o.on b3);have NM:=aa M3;clear b3 M3 cD hqb UU fF px;go_cut [7] from 12 to 19 (λv7 W=>∃(A:GB) (q c' :Nat),v7= am A q c'/\Af (cV W W3 (am A q c') (sh.es.filter (cI half ax))/\ci W3 W))
 .have xC:=below_drewN (Xj W3 W3) 1;have X4:=HX.o.on (Pd pw.o xC);have⟨Wd,dJ⟩:=eX W3.drew;have x3:Wd.cell? (an xb 3)=some (el bs os n cs):=by rw[dJ];exact X4.x.j3
  have s2:Wd.cell? (an bs (os+2))=some (am Ae ne ce):=by rw[dJ];exact(pw.o.cell (p:=an bs (os+2)) Oj.q3).trans EH.o
  have o0:Wd.cell? qb=some (eG mb):=by rw[dJ];exact NM.o.j0
  have wN:Af (Es Wd Wd (am Ae ne ce) sh.es):=by show Es _ _ _ _;rw[dJ];exact gA ahl.o (Pd pw.o xC)
  have HSd:Af (ql Wd hb w mb half ax):=by show ql _ _ _ _ _ _;rw[dJ];exact ahg.o.on xC
  have uk:Af (Wd.heap.size=W3.heap.size/\ci W3 Wd):=by rw[dJ];exact⟨rfl,xC⟩
  have nN:(0:Int)<n:=by have:=HI.p11;omega
  have nz:¬n=0:=Mx;clear X4;refine bL (λj=>[8].contains j) (λW=>ci Wd W) KJ ?_;rw[<-dJ];clear dJ;refine tKz 0 12 (ro xb 3) pm (λW hW=>zM) pi ?_;try simp only[Act.put,Qb,Qc,Qd]
  refine tKz 1 13 (el bs os n cs) pm (λW hW=>zcc) pi ?_;try simp only[Act.put,Qb,Qc,Qd]
  refine tKz 2 14 (ro bs os) pm (λW hW=>zM) pi ?_;try simp only[Act.put,Qb,Qc,Qd]
  refine tKz 3 15 (ro bs (os+2)) pm (λW hW=>zM) pi ?_;try simp only[Act.put,Qb,Qc,Qd]
  refine tKz 4 16 (am Ae ne ce) pm (λW hW=>by have hx:=(hW.cell (XX s2)).trans s2;go_simp) pi ?_;try simp only[Act.put,Qb,Qc,Qd]
  refine tKz 6 18 (eG mb) pm (λW hW=>by have hx:=(hW.cell (XX o0)).trans o0;go_simp) pi ?_;try simp only[Act.put,Qb,Qc,Qd]
  refine ju 5 rfl KJ λK hK=> ?_;have je:=vU Wd Wd (am Ae ne ce) sh.es wN.o go (by have:=Oj.p1;omega);go_simp;go_at_call 89;refine Qaw je ?_;rintro e V5 ⟨v5,rfl,o5,b5⟩;obtain⟨A5,c5,rfl⟩:=o5.form;rw[<-Oj.p2] at o5|-;have L5:=b5;go_simp;refine hK.out _ _ (λ_=>L5) ?_;clear hK K;try simp only[Act.put,Qb,Qc,Qd]
  refine ju 7 rfl KJ λK hK=> ?_;have HDl:=DM V5 Wd _ sh.es o5 b5.size Oj.p1 wN.q1 hb w mb half ax (HSd.o.on b5);go_simp;go_at_call 163;refine Qaw HDl ?_;rintro e V7 ⟨v7,rfl,o7,b7⟩;obtain⟨A7,c7,rfl⟩:=o7.form;have L7:=b5.trans b7;go_simp;refine hK.out _ _ (λ_=>L7) ?_;clear hK K;try simp only[Act.put,Qb,Qc,Qd]
  refine ju 8 rfl KJ λK hK=> ?_;go_simp;refine hK.out _ _ (λh=>absurd h Fd) ?_;clear hK K;try simp only[Act.put,Qb,Qc,Qd]
  refine bD KJ ?_ _;go_wp2_with fail;go_meet;exact⟨A7,_,c7,rfl,by rw[<-uk.p1];exact o7,uk.q1.trans (by rw[<-uk.p1];exact L7)⟩
 .obtain⟨A7,q7,c7,rfl,H7⟩:=hcut;have hq:q7=(sh.es.filter (cI half ax)).length:=by obtain⟨A',c',e,-⟩:=(Sl.bU H7.p1:Sl _ _ _ _ _ _).form;injection e
  have Hq:=aa hq;have b4:=Pd pw.o H7.q1;have X4:=HX.o.on b4;have WT:=aa X4;have Uo:=aa b4;have WW:=aa (IC.o.on H7.q1);have ahf:=aa (ahg.o.on H7.q1);have HO4:=aa (NM.o.on H7.q1);have ahp:=dK IC.o.lt pw.o.size;obtain⟨-,-,y2,y3⟩:=mm X4.x;have nN:(0:Int)<n:=by have:=HI.p11;omega
  have n1:=nN;have e8:=HI.q12;have UE:=HI.p11;have agO:1<=cb:=by have h1:=nk X4.b;rw[HI.p8] at h1;exact Qh Sv h1
  have agM:1<=cs:=Qh Sv (nk X4.s.s.sl);have ncb:=Int.ofNat_le.2 agO;have ncs:=Int.ofNat_le.2 agM;have nle:(n:Int)<=4096:=by have:=HI.p6;omega
  have pS:=Jg (x:=b0) (r:=br) (by have h1:=X4.b;rw[HI.p8] at h1;exact h1) e8;have ZC:=Cf X4.s.s UE;have HT:Af ((cb≠1->Ns wc wc .i64 (el bb (ob+1) (n - 1) (cb - 1)) br)/\(cb=1->Ns wc wc .i64 (el bb ob 0 0) br)/\(cs≠1->mP wc wc (el bs (os+3) (n - 1) (cs - 1)) pr)/\(cs=1->mP wc wc (el bs os 0 0) pr)/\(cb=1->n=1)/\(cs=1->n=1)/\(∀o n' c',Ap S2 (el bb o n' c'))/\(∀o n' c',Ap S2 (el bs o n' c'))/\∀p∈pr,Ap S2 p.2):=
   ⟨pS.1,pS.2,ZC.1,ZC.2,λh=>by
    have h1:=nk X4.b;rw[HI.p8,h] at h1;simp at h1;rw[e8,h1];rfl,λh=>by
    have h1:=nk X4.s.s.sl;rw[h] at h1;simp at h1;rw[UE,h1];rfl,λo n' c' =>rG X4.ba (by rw[e8];exact Qfz _),λo n' c' =>rG X4.s.a (by rw[UE];exact Qfz _),λp hp=>X4.s.e p (Qs _ hp)⟩
  clear pS ZC agO agM e8 UE;clear hq b4 X4;go_upto_region 4 with fail;go_cut [8,9] from 20 to 25 (λv8 v9 W=>∃(A8 A9:GB) (n8 c8 n9 c9:Nat),v8= am A8 n8 c8/\v9= am A9 n9 c9/\Af (Ns W W .i64 (am A8 n8 c8) br/\Ap S2 (am A8 n8 c8)/\iP W S2 (am A9 n9 c9) pr/\ci wc W))
  .by_cases h1:cb=1<;>by_cases h2:cs=1
   .have rh:=HT.p2 h1;have tG:=HT.p4 h2;have En:=aa rh;have JT:=aa tG;have j5:=HT.p5 h1;subst h1;subst h2;subst j5;exact zba
   .have rh:=HT.p2 h1;have tG:=HT.p3 h2;have En:=aa rh;have JT:=aa tG;have j5:=HT.p5 h1;subst h1;subst j5;exact zba
   .have rh:=HT.p1 h1;have tG:=HT.p4 h2;have En:=aa rh;have JT:=aa tG;have j5:=HT.p6 h2;subst h2;subst j5;exact zba
   .have rh:=HT.p1 h1;have tG:=HT.p3 h2;have En:=aa rh;have JT:=aa tG;exact zba
  .obtain⟨A8,A9,n8,c8,n9,c9,rfl,rfl,H8⟩:=hcut;have hCo:=xj wc (am A9 n9 c9) pr H8.p3.s (by have:=HI.p6;have:=HI.p11;omega) (λp hp e he=>((H8.p3.s.es p hp).1.2 e he).1) hb w mb qb half ax (ahf.o.on H8.q3) (HO4.o.on H8.q3);unfold qG at hCo;have⟨R,hR⟩:=eX (pr.any λp=>p.1.es.any λe=> !cI half ax e);rw[<-hR] at hCo;have HCo:=aa hCo;have HR:=aa hR;clear y2 y3 hCo hR;go_upto_if 28 with(go_at_call 25;refine HCo.o.mono ?_;rintro e W9 ⟨rfl,b9⟩;have B9:=aa b9;clear b9);have MC:=zE c half ax sh shr b0 br HI.p7 HI.p8;have hRr:R=shr.any λs=>s.es.any λe=> !cI half ax e:=(by rw[HR.o,<-HI.p12,List.any_map];rfl);rw[<-hRr] at MC;have HSe:=aa MC;clear MC hRr HCo;go_cut [8,9] from 29 to 29 (λv8 v9 W=>∃(A8 A9:GB) (n8 c8 n9 c9:Nat) (bl' :Fr) (DX :List (ay×Va)),v8= am A8 n8 c8/\v9= am A9 n9 c9/\Af (Ns W W .i64 (am A8 n8 c8) bl'/\Ap S2 (am A8 n8 c8)/\iP W S2 (am A9 n9 c9) DX/\ci W9 W/\fR c half ax=bZ ax (c.depth+1) (sh.es.filter (cI half ax)) bl' (DX.map Prod.fst)/\bl'.length=DX.length/\(∀x∈bl',x∈c.blocks)/\bl'.length<=4096))
   .cases R
    .have h1:fR c half ax=bZ ax (c.depth+1) (sh.es.filter (cI half ax)) br (pr.map Prod.fst):=(by rw[HI.p12];exact HSe.q1 Fd);have H1:=aa h1;clear h1;go_wp2_with fail;go_meet;exact⟨A8,A9,n8,c8,n9,c9,br,pr,rfl,rfl,dU H8.p1 B9.o,H8.p2,H8.p3.on B9.o,pi,H1.o,by have e1:=HI.p11;have e2:=HI.q12;omega,λx hx=>by rw[HI.p8];exact Qs _ hx,by have e1:=HI.q12;have e2:=HI.p6;omega⟩
    .have h1:=HSe.p1 rfl;have H1:=aa h1;clear h1;go_wp2_with fail;go_meet;exact⟨none,none,0,0,0,0,[],[],rfl,rfl,(cQ _ W9 3 .i64).ns,Py _,⟨⟨Sl.bU (Ck W9 W9.heap.size),λp hp=>zdh⟩,Py _,λp hp=>zdh⟩,pi,H1.o,rfl,λx hx=>zdM,Fd⟩
   .obtain⟨A8,A9,n8,c8,n9,c9,bl',DX,rfl,rfl,H9⟩:=hcut;have an1:=aa H9.q7;have bw9:=Pd Uo.o (Pd H8.q3 (Pd B9.o H9.p4));have b49:=Pd H8.q3 (Pd B9.o H9.p4);have hO7:=aS H7.p1 b49;have hOE:=hO7;have hEo:∀e∈sh.es.filter (cI half ax),eR e:=λe he=>ahl.q1 e (Qia.1 he).1
    have hAh:=pR wc (λx=>S x\/x=rb) (λx hx=>by
      obtain hx|hx:=hx
      .exact Qn (HI.p1 x hx) bw9.size
      .rw[hx];exact Qn WW.o.lt b49.size) ax (c.depth+1) (sh.es.filter (cI half ax)) bl' DX (am A7 q7 c7) (am A8 n8 c8) (am A9 n9 c9) HI.p3
     ⟨Sl.bU hOE,hEo⟩ (jG hOE (λx hx=>by
      obtain hx|hx:=hx
      .exact Qn (HI.p1 x hx) ahp.q1
      .rw[hx];exact ahp.p1)) (Qh (Qby _ _) Oj.p1)
     H9.p1 (H9.p2.mono (λx hx=>by
      obtain hx|hx:=hx
      .exact(j2.o x).2 (Or.inl hx)
      .exact(j2.o x).2 (Or.inr (by rw[hx];exact QX wD.o)))) (H9.p3.mono (λx hx=>by
      obtain hx|hx:=hx
      .exact(j2.o x).2 (Or.inl hx)
      .exact(j2.o x).2 (Or.inr (by rw[hx];exact QX wD.o)))) H9.p6 an1.o (λx hx=>HI.p2.Ej x (H9.p7 x hx))
    rw[<-H9.p5] at hAh;have HAh:=aa hAh;have z0:=(ahf.o.on b49).f.j0;have z1:=(WT.o.on b49).x.j1;have dw:IntKind.i64.wrap ((c.depth:Int)+1)=((c.depth+1:Nat):Int):=(by have:=HI.p3;exact UV);have WV:=aa (WW.o.on b49);have HW9:=aa bw9;clear bw9 b49 hO7 hOE hEo hAh;go_wp2_with(go_at_call 87;refine HAh.o.mono ?_;rintro e uh ⟨v,rfl,hv,wC⟩;obtain⟨bv,sv,Eu,rfl,q1,q2,q3,q4⟩:=hv.ex;obtain⟨Aq,cq,rfl,-,-⟩:=q1.form;obtain⟨Ar,cr,rfl⟩:=q3.s.form;have r9:=WV.o.on wC;have R9:=aa r9;have HV:=aa hv;have oU:=aa (Pd HW9.o wC);have r0:=r9.j0;have r1:=r9.j1;have r2:=r9.j2;have r3:=r9.j3;have f0:=r9.free 0;have f1:=r9.free 1;have f2:=r9.free 2;have f3:=r9.free 3;clear hv q1 q2 q3 q4 wC r9);refine Qar (lj rfl rfl (eY (oW R9.o _ _ _ _))) rfl ?_;have hle:=QX wD.o;have kG:aG (λx=>x=rb) uh ((((uh.setCell (ol rb) (ac (fR c half ax).ax)).setCell (an rb 1) (ac (fR c half ax).depth)).setCell (an rb 2) (am Aq (fR c half ax).blocks.length cq)).setCell (an rb 3) (am Ar Eu.length cr)):=
     vj uh rb _ _ _ _
    refine⟨_,rfl,(HV.o.aL kG (λx hx=>Or.inr hx)).mono (λx hx=>Or.inl hx),?_⟩;exact(((oU.o.setCell (p:=ol rb) hle _).setCell (p:=an rb 1) hle _).setCell (p:=an rb 2) hle _).setCell (p:=an rb 3) hle _
def Vh{P:ST}{fn:Func}{t u:Fy}{p q:Tmp}{a b:Addr}{tmps:Zvv}{x y:Va}(h:fn.results= #[.cell p t,.cell q u])(hp:tmps.getD p undef= .pointer (some a))(hq:tmps.getD q undef= .pointer (some b))(hl:(loadVar t a).run P w= .ok x w)(hm:(loadVar u b).run P w= .ok y w):
  (results fn tmps).run P w= .ok (.tuple #[x,y]) w:=by
 simp only[results,h];simp only[Qif] at hp hq;simp[Result.andThen,hp,hq,hl,hm,asAddr]
def vw{g:Nat}{e:Fy}{cs:Ox}(h:aq w g e cs){p:Nat}(bT:g≠p)(y0 y1 y2 y3:Va):aq ((((w.setCell (ol p) y0).setCell (an p 1) y1).setCell (an p 2) y2).setCell (an p 3) y3) g e cs:=
 (((h.az (p:=ol p) bT y0).az (p:=an p 1) bT y1).az (p:=an p 2) bT y2).az (p:=an p 3) bT y3
def VF(c:ak):dj c<256/\0<dj c:=by
 unfold dj;constructor
 .exact QO (Qcr Fd (show 7 - c.depth<=7 from Qfm _ _)) Fd
 .exact Qdy Fd
def FA(w:Wo)(S:FV)(hS:∀x,S x->x<w.heap.size)(c:ak)(hc:ur c)(qc:c.depth<8)(v:Va)(h:jw w S v c)(cC:c.blocks.length<=4096):
  Calls prog 91 #[v] w λe w' =>∃v1 v2,e= .returned (.tuple #[v1,v2])/\jw w' S v1 (dQ c)/\jw w' S v2 (dd c)/\ci w w' :=by
 obtain⟨bv,sv,ps,rfl,hb,pq,hs,fc⟩:=h.ex;obtain⟨hh,hh0⟩:=VF c;obtain⟨g1,g2',g3',g4,g5,g6⟩:=qO qc hc.ok.f256 hc.ok.mod;have⟨ax,eo⟩:=eX c.ax;have⟨dep,eK⟩:=eX c.depth;have⟨half,hhf⟩:=eX (dj c);obtain⟨Ab,cb,rfl,-,-⟩:=hb.form;obtain⟨As,cs,rfl⟩:=hs.s.form;have⟨n,hn⟩:=eX c.blocks.length;have⟨n',sf⟩:=eX ps.length;rw[<-hn,<-sf,<-eo,<-eK];rw[<-hn] at hb pq;rw[<-sf] at hs;obtain⟨W0,aY,X0,B0⟩:=nW w [ac ax,ac dep,am Ab n cb,am As n' cs] 72;obtain⟨W1,aW,R1,B1⟩:=nW W0 [ac 0,ac 0,(),()] 72;obtain⟨W2,cE,Q2,B2⟩:=nW W1 [ac 0,ac 0,(),()] 72;have s0:W0.heap.size=w.heap.size+1:=zbf;have s1:W1.heap.size=w.heap.size+1+1:=by rw[aW];simp[s0]
 have fI:=Pd B0 B1;have Uu:=Pd fI B2;have X2:=(X0.on B1).on B2;have R2:=R1.on B2;have⟨g2,jY⟩:=eX (w.heap.size+1);have⟨g3,qa⟩:=eX (w.heap.size+1+1);rw[s0,<-jY] at R2;rw[s1,<-qa] at Q2;have HG:Af (w.heap.size<=g2/\w.heap.size<=g3/\g3≠g2/\g2≠g3):=⟨Mx,Mx,Mx,Mx⟩;have HW:=Ba aY.symm aW.symm cE.symm qa.symm jY.symm;have HI:=anj hS hc qc (by omega:n<=4096) eo eK hhf hn sf (by omega:half<256) (by unfold dj at hhf;omega:ax+half<256) (by have:=hc.ok.f256;omega:ax<256);have AF:=aa X2;have fF:=aa R2;have IC:=aa Q2;have px:=aa Uu;have wE:=kH hb pq hs fc;have x1:=X2.j1;have dw:IntKind.i64.wrap (7 - (dep:Int))=((7 - dep:Nat):Int):=UV;have dm:min (7 - dep) 64=7 - dep:=Zh Mx;have d0:(0:Int)<=((7 - dep:Nat):Int):=Xh _;have dp:IntKind.i64.wrap ((2:Int)^(7 - dep))=(half:Int):=by rw[show((2:Int)^(7 - dep))=((2^(7 - dep):Nat):Int) from(Qdn 2 _).symm,hhf,eK];unfold dj;have:2^(7 - c.depth)<256:=hh;exact UV
 obtain⟨E7,hE7⟩:∃E,E=7 - dep:=⟨_,rfl⟩;rw[<-hE7] at dw dm d0 dp;clear hS hc qc h cC hb pq hs fc hh hh0 g1 g2' g3' g4 g5 g6 eo eK hhf hn sf aY X0 B0 aW R1 B1 cE Q2 B2 s0 s1 fI Uu X2 R2 jY qa hE7;go_in;go_upto_region 1 with fail;rw[HW.p1,HW.p2,HW.p3];try rw[HW.p4]
 try rw[HW.q4]
 go_upto_region 3 with fail;obtain⟨W3,cD,H3,b3⟩:=nW W2 [ac half] 3;have⟨hb,hhb⟩:=eX W2.heap.size;rw[<-cD];rw[<-hhb] at H3|-;have xC:=below_drewN (Xj W3 W3) 1;have bd:=Pd b3 xC;have⟨Wd,dJ⟩:=eX W3.drew;have b2d:ci W2 Wd:=by rw[dJ];exact bd
 have AK:=aa (Pd px.o b2d);have hX:=AF.o.on b2d;have hH:aq Wd hb 3 [ac half]:=by rw[dJ];exact H3.on xC
 have fF:=aa (fF.o.on b2d);have IC:=aa (IC.o.on b2d);have x0:=hX.j0;have h0:=hH.j0;have j8:xJ Wd (λx=>S x\/x=g2\/x=g3) w hb half (am Ab n cb) (am As n' cs) c ps:=by
  have hT:∀x,(S x\/x=g2\/x=g3)->S x\/w.heap.size<=x:=λx hx=>by
   obtain hx|hx|hx:=hx
   .exact Or.inl hx
   .rw[hx];exact Or.inr HG.p1
   .rw[hx];exact Or.inr HG.p2
  refine⟨?_,hH,dU wE.p1 AK.o,Sl.apart wE.p1 wE.p2 hT,(wE.p3.apart hT).on AK.o,wE.q3⟩;rw[<-HI.p5,<-HI.p6];exact hX
 have hSd:∀W,ci Wd W->∀x,(S x\/x=g2\/x=g3)->x<W.heap.size:=λW hW x hx=>by
  refine Qn ?_ hW.size;obtain hx|hx|hx:=hx
  .exact Qn (HI.p1 x hx) AK.o.size
  .rw[hx];exact fF.o.lt
  .rw[hx];exact IC.o.lt
 have hhe:=HI.p7;have HL:Af (∀W,ci Wd W->Calls prog 160 #[ac ax,hb,w] W λe w' =>∃v,e= .returned v/\jw w' (λx=>S x\/x=g2\/x=g3) v (dQ c)/\ci W w'):=λW hW=>by have h1:=xT W _ (hSd W hW) c HI.p2 HI.p3 w hb half ax _ _ ps (j8.on hW) (by rw[<-HI.p8];exact HI.p4) HI.p10 HI.q11;unfold dQ;rw[<-hhe,<-HI.p5];exact h1
 have HR:Af (∀W,ci Wd W->Calls prog 160 #[ac (ax+half:Nat),hb,w] W λe w' =>∃v,e= .returned v/\jw w' (λx=>S x\/x=g2\/x=g3) v (dd c)/\ci W w'):=λW hW=>by have h1:=xT W _ (hSd W hW) c HI.p2 HI.p3 w hb half (ax+half) _ _ ps (j8.on hW) (by rw[<-HI.p8];exact HI.p4) HI.p10 HI.p11;unfold dd;rw[<-hhe,<-HI.p5];exact h1
 have fw:IntKind.i64.wrap ((ax:Int)+(half:Int))=((ax+half:Nat):Int):=by have:=HI.p11;exact UV
 clear b3 H3 cD hhb xC bd b2d hX hH j8 hSd hhe x1 dw dm d0 dp px AF;refine bL (λj=>[10,11].contains j) (λW=>ci Wd W) KJ ?_;rw[<-dJ];clear dJ;refine tKz 0 11 (.func (.func 160) #[] #[hb,w]) pm (λW hW=>zM) pi ?_;try simp only[Act.put,Qb,Qc,Qd]
 refine tKz 1 12 w pm (λW hW=>zM) pi ?_;try simp only[Act.put,Qb,Qc,Qd]
 refine tKz 2 13 (ac ax) pm (λW hW=>zaE) pi ?_;try simp only[Act.put,Qb,Qc,Qd]
 refine tKz 4 15 (.func (.func 160) #[] #[hb,w]) pm (λW hW=>zM) pi ?_;try simp only[Act.put,Qb,Qc,Qd]
 refine tKz 5 16 w pm (λW hW=>zM) pi ?_;try simp only[Act.put,Qb,Qc,Qd]
 refine tKz 6 17 (ac ax) pm (λW hW=>zaE) pi ?_;try simp only[Act.put,Qb,Qc,Qd]
 refine tKz 7 18 (ac half) pm (λW hW=>by have hx:=(hW.cell (XX h0)).trans h0;go_simp) pi ?_;try simp only[Act.put,Qb,Qc,Qd]
 refine tKz 8 19 (ac (ax+half:Nat)) pm (λW hW=>zM) pi ?_;try simp only[Act.put,Qb,Qc,Qd]
 refine ju 3 rfl KJ λK hK=> ?_;go_simp;go_at_call 160;refine Qaw (HL.o Wd pi) ?_;rintro e V3 ⟨v3,rfl,c3,b3⟩;obtain⟨bv3,sv3,ps3,rfl,q1,q2,q3,q4⟩:=c3.ex;obtain⟨A3,k3,rfl,-,-⟩:=q1.form;obtain⟨As3,ks3,rfl⟩:=q3.s.form;clear q1 q2 q3 q4;have L3:=b3;go_simp;refine hK.out _ _ (λ_=>L3) ?_;clear hK K;try simp only[Act.put,Qb,Qc,Qd]
 refine ju 9 rfl KJ λK hK=> ?_;go_simp;go_at_call 160;refine Qaw (HR.o V3 L3) ?_;rintro e V9 ⟨v9,rfl,c9,b9⟩;obtain⟨bv9,sv9,Eu,rfl,q1,q2,q3,q4⟩:=c9.ex;obtain⟨A9,k9,rfl,-,-⟩:=q1.form;obtain⟨As9,ks9,rfl⟩:=q3.s.form;clear q1 q2 q3 q4;have c3' :=c3.on b9;have L9:=Pd b3 b9;go_simp;refine hK.out _ _ (λ_=>L9) ?_;clear hK K;try simp only[Act.put,Qb,Qc,Qd]
 refine ju 10 rfl KJ λK hK=> ?_;have r9:=fF.o.on L9;obtain⟨z0,z1,z2,z3⟩:=mm r9;obtain⟨f0,f1,f2,f3⟩:=WI r9;go_simp;have r9' :=IC.o.on L9;have r10:=oW r9 (ac (dQ c).ax) (ac (dQ c).depth) (am A3 (dQ c).blocks.length k3) (am As3 ps3.length ks3);have s10:=vw r9' (p:=g2) HG.p3 (ac (dQ c).ax) (ac (dQ c).depth) (am A3 (dQ c).blocks.length k3) (am As3 ps3.length ks3);have MM:=vj V9 g2 (ac (dQ c).ax) (ac (dQ c).depth) (am A3 (dQ c).blocks.length k3) (am As3 ps3.length ks3);have D3:=c3'.aL MM (λx hx=>Or.inr (Or.inl hx));have D9:=c9.aL MM (λx hx=>Or.inr (Or.inl hx));have⟨ND,Oc⟩:=eX ((((V9.setCell (ol g2) (ac (dQ c).ax)).setCell (an g2 1) (ac (dQ c).depth)).setCell (an g2 2) (am A3 (dQ c).blocks.length k3)).setCell (an g2 3) (am As3 ps3.length ks3));have l10:=(((Pd AK.o L9).setCell (p:=ol g2) HG.p1 (ac (dQ c).ax)).setCell (p:=an g2 1) HG.p1 (ac (dQ c).depth)).setCell (p:=an g2 2) HG.p1 (am A3 (dQ c).blocks.length k3);have l10:=l10.setCell (p:=an g2 3) HG.p1 (am As3 ps3.length ks3);rw[<-Oc] at r10 s10 D3 D9 l10|-;clear Oc z0 z1 z2 z3 f0 f1 f2 f3 MM;refine hK.out _ _ (λh=>absurd h Fd) ?_;clear hK K;try simp only[Act.put,Qb,Qc,Qd]
 refine ju 11 rfl KJ λK hK=> ?_;obtain⟨z0,z1,z2,z3⟩:=mm s10;obtain⟨f0,f1,f2,f3⟩:=WI s10;go_simp;have h11:=vj ND g3 (ac (dd c).ax) (ac (dd c).depth) (am A9 (dd c).blocks.length k9) (am As9 Eu.length ks9);have r11:=vw r10 (p:=g3) HG.q3 (ac (dd c).ax) (ac (dd c).depth) (am A9 (dd c).blocks.length k9) (am As9 Eu.length ks9);have s11:=oW s10 (ac (dd c).ax) (ac (dd c).depth) (am A9 (dd c).blocks.length k9) (am As9 Eu.length ks9);have E3:=D3.aL h11 (λx hx=>Or.inr (Or.inr hx));have E9:=D9.aL h11 (λx hx=>Or.inr (Or.inr hx));have l11:=((l10.setCell (p:=ol g3) HG.p2 (ac (dd c).ax)).setCell (p:=an g3 1) HG.p2 (ac (dd c).depth)).setCell (p:=an g3 2) HG.p2 (am A9 (dd c).blocks.length k9);have l11:=l11.setCell (p:=an g3 3) HG.p2 (am As9 Eu.length ks9);have⟨V11,ag1⟩:=eX ((((ND.setCell (ol g3) (ac (dd c).ax)).setCell (an g3 1) (ac (dd c).depth)).setCell (an g3 2) (am A9 (dd c).blocks.length k9)).setCell (an g3 3) (am As9 Eu.length ks9));rw[<-ag1] at r11 s11 E3 E9 l11|-;clear ag1 z0 z1 z2 z3 f0 f1 f2 f3 h11;refine hK.out _ _ (λh=>absurd h Fd) ?_;clear hK K;try simp only[Act.put,Qb,Qc,Qd]
 refine bD KJ ?_ _;go_wp2_with fail;refine Qar (Vh rfl rfl rfl (eY r11) (eY s11)) rfl ?_;exact⟨_,_,rfl,E3.mono (λx hx=>Or.inl hx),E9.mono (λx hx=>Or.inl hx),l11⟩
def vH(w:Wo)(a b:aD):
  Calls prog 83 #[.agg #[ip a.print,gc a.block],.agg #[ip b.print,gc b.block]] w (iF (ac (fO a b)) λw' =>ci w w') :=by
 obtain⟨p,u⟩:=a;obtain⟨q,v⟩:=b;simp only;have⟨W1,aW⟩:=eX (qr (qr w #[ip p,gc u] 29) #[ip q,gc v] 29);have R1:Af (aq W1 w 29 [ip p,gc u]):=by show _=_;rw[aW];exact dx w _ _
 have R2:Af (aq W1 (w.heap.size+1) 29 [ip q,gc v]):=by show _=_;rw[aW];exact cL w _ _
 have B1:Af (ci w W1):=JQ;have SR:=aW.symm;obtain⟨x0,x1⟩:=gh R1.o;obtain⟨y0,y1⟩:=gh R2.o;obtain⟨C1,C2,ho⟩:=qC (λW=>yN W p q) (λW=>yO W u v) (Jf ⟨p,u⟩ ⟨q,v⟩);simp only at ho;generalize mK p q=c1 at*;generalize mK u v=c2 at*;have HOr:Af (∀W:Wo,Calls prog 84 #[el W 0 2 2] (qr W #[ac c1,ac c2] 3) (iF (ac (Sx c1 c2)) λw' =>qr W #[ac c1,ac c2] 3=w')):=λW=>OF;have HOd:Af (∀W:Wo,Calls prog 84 #[el W 0 2 2] (qr W #[ac c1,ac c2] 3).drew (iF (ac (Sx c1 c2)) λw' =>(qr W #[ac c1,ac c2] 3).drew=w')):=λW=>OF;clear aW;go_in;go_upto_region 1 with fail;go_region_held3 (λW=>W.cell? w=some (ip p)/\W.cell? (an w.heap.size 1)=some (gc u)/\W.cell? (ol (w.heap.size+1))=some (ip q)/\W.cell? (an (w.heap.size+1) 1)=some (gc v)) (first|with_reducible exact⟨x0,x1,y0,y1⟩|go_keep)
  (first
   |((go_at_call 85);(with_reducible refine(C1.o _).mono ?_);rintro e W3 ⟨rfl,rfl⟩)
   |((go_at_call 86);(with_reducible refine(C2.o _).mono ?_);rintro e W3 ⟨rfl,rfl⟩)
   |((go_at_call 84);(with_reducible refine(HOr.o _).mono ?_);rintro e W3 ⟨rfl,rfl⟩)
   |((go_at_call 84);(with_reducible refine(HOd.o _).mono ?_);rintro e W3 ⟨rfl,rfl⟩))
 all_goals
  exact zft
def VC{l:List aD}{e:aD}(hi:i<=l.length)(h1:∀q x,q<i->l[q]? =some x->fO x e<0)(h2:∀x,l[i]? =some x->¬fO x e<0):tr l e=i:=by
 induction l generalizing i with
 |nil=>simp at hi;subst hi;rfl
 |cons a r ih=>
  cases i with
  |zero=>
   rw[tr,Qik (by have:=h2 a rfl;simpa using this)];rfl
  |succ i=>
   rw[tr,Qij (by have:=h1 0 a (Qfz i) rfl;simpa using this),QF];congr 1;exact ih zal (λq x hq hx=>h1 (q+1) x Mx zdf) (λx hx=>h2 x zdf)
def aco{j n h:Nat}(wJ:i<j)(hj:j<=n)(hn:n<=9)(hh:h=(i+j)/2):IntKind.i64.wrap ((i:Int)+j)=(i:Int)+j/\IntKind.u64.wrap ((i:Int)+j)=(i:Int)+j/\((i:Int)+j)/2=(h:Int)/\IntKind.i64.wrap (h:Int)=(h:Int)/\h<j/\i<=h/\IntKind.i64.wrap ((h:Int)+1)=(h:Int)+1:=by refine⟨UV,?_,Mx,UV,Mx,Mx,UV⟩;exact zeB
def An(w:Wo)(v:Va)(l:List aD)(e:aD)(h:Es w w v l)(hl:l.length<=9)(hr:dV l=true):
  Calls prog 82 #[v,jz e,.func (.func 83) #[] #[]] w λr w' =>∃found,r= .returned (.tuple #[ac (tr l e),.bool found])/\ci w w' :=by
 obtain⟨A,c,rfl,-,-⟩:=h.1.form;have⟨n,hn⟩:=eX l.length;rw[<-hn];have hp:=(nP l).1 hr;have H:=aa h;have Hn:=iJ hn (by omega:n<=9) hp;have⟨I0,Iv⟩:=eX (tr l e);have ID:=aa Iv;rw[<-Iv];have⟨er,pU⟩:=eX e.print;have⟨ek,mF⟩:=eX e.block;unfold jz;rw[<-pU,<-mF];have He:=dK pU mF;obtain⟨W0,aY,X0,B0⟩:=nW w [ip er,gc ek] 29;have fD:=aa aY.symm;have HX0:=aa X0;have mV:=aa B0;clear h hl hr hn hp pU mF aY X0 B0 Iv;go_in;go_upto_region 1 with fail;rw[fD.o];go_wp2_with fail;go_loopw [9,10] (λiv jv wr=>∃i j:Nat,iv= ac i/\jv= ac j/\Af (i<=j/\j<=n/\(∀q x,q<i->l[q]? =some x->fO x e<0)/\(∀q x,j<=q->l[q]? =some x->¬fO x e<0)/\ci W0 wr)) (λiv jv _=>(intOf jv).toNat - (intOf iv).toNat)
 .exact⟨0,n,rfl,rfl,⟨lm,go,λq x hq=>absurd hq (Qew q),λq x hq hx=>by have:=(Ql.1 hx).1;have:=Hn.p1;omega,pi⟩⟩
 .obtain⟨i,j,rfl,rfl,HR⟩:=hrel;by_cases wJ:i<j
  .have⟨h,hh⟩:=eX ((i+j)/2);obtain⟨m1,m2,m3,m4,m5,m6,nZ⟩:=aco wJ HR.p2 Hn.p2 hh;have ZV:h<l.length:=(by have:=HR.p2;have:=Hn.p1;omega);have HEw:=H.o.below (Pd mV.o HR.q4);obtain⟨b,o,c',hv,-,-,bO,aH⟩:=HEw.cells Mx;obtain rfl:A=some (an b o):=No;obtain⟨z0,z1⟩:=aH h ZV;have⟨x,hx⟩:=eX (l[h]);have oP:l[h]? =some x:=(by rw[hx];exact Qf ZV);rw[<-hx] at z0 z1;have⟨pr,gY⟩:=eX x.print;have⟨bk,ej⟩:=eX x.block;have⟨cm,oS⟩:=eX (fO x e);have HCm:Af (∀W,Calls prog 83 #[.agg #[ip pr,gc bk],.agg #[ip er,gc ek]] W (iF (ac cm) λw' =>ci W w')):=λW=>zcp;rw[<-gY] at z0;rw[<-ej] at z1;obtain⟨x0,x1⟩:=gh (HX0.o.on HR.q4);have HX:=Nv oP oS m6 m5 (by rw[Hn.p1];exact ZV:h<n) wJ;have cU:=aa HR.o;have h0:=Xh h;have hN:(h:Int)<n:=zds;have avO :=Xi.2 wJ;clear HEw hv bO aH hx oP gY ej oS HR wJ ZV m5 m6 hh;go_upto_region 5 with fail;go_cut [31] from 24 to 31 (λv31 W=>v31= .bool (decide (cm<0))/\Af (ci wr W))
   .have xC:=below_drewN (Xj wr wr) 1;have⟨Wd,dJ⟩:=eX wr.drew;have z0:jp Wd b (o+h*2) (ip pr):=(by rw[dJ];exact z0);have z1:jp Wd b (o+h*2+1) (gc bk):=(by rw[dJ];exact z1);have x0:Wd.cell? w=some (ip er):=(by rw[dJ];exact x0);have x1:jp Wd w.heap.size 1 (gc ek):=(by rw[dJ];exact x1);have uk:Af (ci wr Wd):=(by rw[dJ];exact xC);refine bL (λj=>[].contains j) (λW=>ci Wd W) KJ ?_;rw[<-dJ];clear dJ;refine tKz 0 24 (.func (.func 83) #[] #[]) pm (λW hW=>zM) pi ?_;(try simp only[Act.put,Qb,Qc,Qd]);refine tKz 1 25 (el b o n c) pm (λW hW=>zM) pi ?_;(try simp only[Act.put,Qb,Qc,Qd]);refine tKz 2 26 (ac h) pm (λW hW=>zM) pi ?_;(try simp only[Act.put,Qb,Qc,Qd]);refine tKz 3 27 (ro b (o+h*2)) pm (λW hW=>zM) pi ?_;(try simp only[Act.put,Qb,Qc,Qd]);refine tKz 4 28 (.agg #[ip pr,gc bk]) pm (λW hW=>zah) pi ?_;(try simp only[Act.put,Qb,Qc,Qd]);refine tKz 5 29 (.agg #[ip er,gc ek]) pm (λW hW=>zai) pi ?_;(try simp only[Act.put,Qb,Qc,Qd]);refine ju 6 rfl KJ λK hK=> ?_;go_simp;go_at_call 83;refine Qaw (HCm.o Wd) ?_;rintro e V6 ⟨rfl,b6⟩;have L6:=b6;go_simp;refine hK.out _ _ (λ_=>L6) ?_;clear hK K;(try simp only[Act.put,Qb,Qc,Qd]);refine tKz 7 31 (.bool (decide (cm<0))) pm (λW hW=>zM) L6 ?_;(try simp only[Act.put,Qb,Qc,Qd]);refine bD KJ ?_ _;go_wp2_with fail;go_meet;exact⟨rfl,Pd uk.o L6⟩
   .obtain⟨rfl,B6⟩:=hcut;have NO:=aa (Pd cU.q4 B6.o);clear z0 z1 x0 x1 m1 m2 m3 m4;by_cases aJ:cm<0
    .have Nt:h+1<=j/\j<=n/\(∀q x,q<h+1->l[q]? =some x->fO x e<0)/\(∀q x,j<=q->l[q]? =some x->¬fO x e<0)/\ci W0 wc:=⟨HX.p4,cU.p2,λq y hq hy=>by
      obtain h1|h1:=Qae q h
      .have h2:=(Qio.1 Hn.q2) q h (Ql.1 hy).1 (Ql.1 HX.p1).1 h1;rw[(Ql.1 hy).2,(Ql.1 HX.p1).2] at h2;exact pM h2 (by rw[<-HX.p2];exact aJ)
      .have:q=h:=by omega
       subst this;rw[HX.p1] at hy;cases hy
       rw[<-HX.p2];exact aJ,cU.p4,NO.o⟩
     have Te:=aa Nt;have Hm:=dK HX.p4 HX.p3;clear Nt;go_wp2_with fail;refine⟨⟨h+1,j,zbv,rfl,Te.o⟩,?_⟩;have:=Hm.o;exact zaK
    .have Nt:i<=h/\h<=n/\(∀q x,q<i->l[q]? =some x->fO x e<0)/\(∀q x,h<=q->l[q]? =some x->¬fO x e<0)/\ci W0 wc:=⟨HX.p3,QX HX.p5,cU.p3,λq y hq hy ags =>by
      obtain h1|h1:=Qae h q
      .have h2:=(Qio.1 Hn.q2) h q (Ql.1 HX.p1).1 (Ql.1 hy).1 h1;rw[(Ql.1 hy).2,(Ql.1 HX.p1).2] at h2;exact aJ (by rw[HX.p2];exact pM h2 ags)
      .have:q=h:=by omega
       subst this;rw[HX.p1] at hy;cases hy
       exact aJ (by rw[HX.p2];exact ags),NO.o⟩
     have Te:=aa Nt;have Hm:=dK HX.p4 HX.p3;clear Nt;go_wp2_with fail;refine⟨⟨i,h,rfl,rfl,Te.o⟩,?_⟩;have:=Hm.o;exact zaK
  .have hie:=QE HR.p1 (QC wJ);have oL:I0=i:=(by rw[ID.o];exact VC (by rw[<-Hn.p1];exact Qh HR.p1 HR.p2) HR.p3 (λx hx=>HR.p4 i x Mx hx));have zv:=aa oL;have Bv:Af (∀W,ci wr W->ci w W):=λW hW=>Pd mV.o (Pd HR.q4 hW);have i0:=Xh i;have Wp:¬(i:Int)<j:=Mx;by_cases ph:i<n
   .have ZV:i<l.length:=(by rw[<-Hn.p1];exact ph);have HEw:=H.o.below (Pd mV.o HR.q4);obtain⟨b,o,c',hv,-,-,bO,aH⟩:=HEw.cells Mx;obtain rfl:A=some (an b o):=No;obtain⟨z0,z1⟩:=aH i ZV;have⟨x,hx⟩:=eX (l[i]);rw[<-hx] at z0 z1;have⟨pr,gY⟩:=eX x.print;have⟨bk,ej⟩:=eX x.block;have⟨cm,oS⟩:=eX (fO x e);have HCm:Af (∀W,Calls prog 83 #[.agg #[ip pr,gc bk],.agg #[ip er,gc ek]] W (iF (ac cm) λw' =>ci W w')):=λW=>zcp;rw[<-gY] at z0;rw[<-ej] at z1;obtain⟨x0,x1⟩:=gh (HX0.o.on HR.q4);have hN:=Xi.2 ph;subst hie;clear HEw hv bO aH hx gY ej oS HR wJ ZV oL ph;go_upto_region 8 with fail;have xC:=below_drewN (Xj wr wr) 1;have⟨Wd,dJ⟩:=eX wr.drew;have z0:jp Wd b (o+i*2) (ip pr):=(by rw[dJ];exact z0);have z1:jp Wd b (o+i*2+1) (gc bk):=(by rw[dJ];exact z1);have x0:Wd.cell? w=some (ip er):=(by rw[dJ];exact x0);have x1:jp Wd w.heap.size 1 (gc ek):=(by rw[dJ];exact x1);have uk:Af (ci wr Wd):=(by rw[dJ];exact xC);refine bL (λj=>[].contains j) (λW=>ci Wd W) KJ ?_;rw[<-dJ];clear dJ;refine tKz 0 35 (ac i) pm (λW hW=>zM) pi ?_;(try simp only[Act.put,Qb,Qc,Qd]);refine tKz 1 36 (ac i) pm (λW hW=>zM) pi ?_;(try simp only[Act.put,Qb,Qc,Qd]);refine tKz 2 37 (ac n) pm (λW hW=>zM) pi ?_;(try simp only[Act.put,Qb,Qc,Qd]);refine tKz 3 38 true pm (λW hW=>zM) pi ?_;(try simp only[Act.put,Qb,Qc,Qd]);refine tKz 4 39 true pm (λW hW=>zM) pi ?_;(try simp only[Act.put,Qb,Qc,Qd]);refine tKz 5 40 (.func (.func 83) #[] #[]) pm (λW hW=>zM) pi ?_;(try simp only[Act.put,Qb,Qc,Qd]);refine tKz 6 41 (el b o n c) pm (λW hW=>zM) pi ?_;(try simp only[Act.put,Qb,Qc,Qd]);refine tKz 7 42 (ac i) pm (λW hW=>zM) pi ?_;(try simp only[Act.put,Qb,Qc,Qd]);refine tKz 8 43 (ro b (o+i*2)) pm (λW hW=>zM) pi ?_;(try simp only[Act.put,Qb,Qc,Qd]);refine tKz 9 44 (.agg #[ip pr,gc bk]) pm (λW hW=>zah) pi ?_;(try simp only[Act.put,Qb,Qc,Qd]);refine tKz 10 45 (.agg #[ip er,gc ek]) pm (λW hW=>zai) pi ?_;(try simp only[Act.put,Qb,Qc,Qd]);refine ju 11 rfl KJ λK hK=> ?_;go_simp;go_at_call 83;refine Qaw (HCm.o Wd) ?_;rintro e V11 ⟨rfl,b6⟩;have L6:=b6;go_simp;refine hK.out _ _ (λ_=>L6) ?_;clear hK K;(try simp only[Act.put,Qb,Qc,Qd]);refine tKz 12 47 (.bool (cm==0)) pm (λW hW=>zM) L6 ?_;(try simp only[Act.put,Qb,Qc,Qd]);refine tKz 13 48 (.bool (cm==0)) pm (λW hW=>zM) L6 ?_;(try simp only[Act.put,Qb,Qc,Qd]);refine ju 14 rfl KJ λK hK=> ?_;go_simp;refine hK.out _ _ (λ_=>L6) ?_;clear hK K;(try simp only[Act.put,Qb,Qc,Qd]);refine ju 15 rfl KJ λK hK=> ?_;go_simp;refine hK.out _ _ (λ_=>L6) ?_;clear hK K;(try simp only[Act.put,Qb,Qc,Qd]);refine bD KJ ?_ _;go_wp2_with fail;(try rw[Qv]);go_ret2;exact⟨by simp[zv.o];exact(Decidable.em _).symm,Bv.o _ (Pd uk.o L6)⟩
   .have anh:i=n:=(by have:=HR.p1;have:=HR.p2;omega);have hN:¬(i:Int)<n:=Mx;subst hie;have HB:=aa HR.q4;subst anh;clear HR wJ oL ph;go_upto_region 8 with fail;go_quiet (fail);go_wp2_with fail;(try rw[Qv]);go_ret2;exact⟨by first|exact zv.o.symm|exact zv.o|simp[zv.o],Bv.o _ (below_drewN pi _)⟩
end
section
variable {α : Type}
def gS(L:List α)(off:Nat)(cs:List α)(h:off+cs.length<=L.length)(j:Nat):
  (splice L off cs)[j]? =if j<off then L[j]? else if j<off+cs.length then cs[j - off]? else L[j]? :=by
 unfold splice;by_cases h1:j<off
 .rw[Xo h1,QN BY,Ze,Xo h1]
 .rw[Xd h1,QM BY];have e:(L.take off).length=off:=by simp;omega
  rw[e];by_cases h2:j<off+cs.length
  .rw[Xo h2,QN Mx]
  .rw[Xd h2,QM Mx,Zb];congr 1;omega
def CH(Xs:List α)(i:Nat)(ms:List α)(hi:i<=Xs.length)(j:Nat):
  (Xs.take i++(ms++Xs.drop i))[j]? =if j<i then Xs[j]? else if j<i+ms.length then ms[j - i]? else Xs[j - ms.length]? :=by
 have e:(Xs.take i).length=i:=BY;by_cases h1:j<i
 .rw[Xo h1,QN Mx,Ze,Xo h1]
 .rw[Xd h1,QM Mx,e];by_cases h2:j<i+ms.length
  .rw[Xo h2,QN Mx]
  .rw[Xd h2,QM Mx,Zb];congr 1;omega
def Lx(L Xs:List α)(i n:Nat)(ms:List α)(hn:Xs.length=n)(hL:L.take n=Xs)(hi:i<=n)(hl:n+ms.length<=L.length):
  (splice (splice L (i+ms.length) (Xs.drop i)) i ms).take (n+ms.length)=Xs.take i++(ms++Xs.drop i):=by
 have e1:(splice L (i+ms.length) (Xs.drop i)).length=L.length:=length_splice _ _ _ zbk;have iO:∀j,j<n->L[j]? =Xs[j]? :=λj hj=>by rw[<-hL,Ze,Xo hj]
 apply Qal;intro j;rw[CH _ _ _ Mx,Ze];by_cases h0:j<n+ms.length
 .rw[Xo h0,gS _ _ _ (by rw[e1];omega)];by_cases h1:j<i
  .rw[Xo h1,Xo h1,gS _ _ _ BY,Xo Mx];exact iO j Mx
  .rw[Xd h1,Xd h1];by_cases h2:j<i+ms.length
   .rw[Xo h2,Xo h2]
   .rw[Xd h2,Xd h2,gS _ _ _ BY,Xd Mx,Xo BY,Zb];congr 1;omega
 .rw[Xd h0,Xd Mx,Xd Mx,QQ Mx]
def Ly(L Xs:List α)(i n:Nat)(ms:List α)(hn:Xs.length=n)(hL:L.take i=Xs.take i)(hi:i<=n)(hl:n+ms.length<=L.length):
  (splice (splice L i ms) (i+ms.length) (Xs.drop i)).take (n+ms.length)=Xs.take i++(ms++Xs.drop i):=by
 have e1:(splice L i ms).length=L.length:=length_splice _ _ _ Mx;have iO:∀j,j<i->L[j]? =Xs[j]? :=λj hj=>by have:=XF (λl=>l[j]?) hL;simpa[Ze,hj] using this
 apply Qal;intro j;rw[CH _ _ _ Mx,Ze];by_cases h0:j<n+ms.length
 .rw[Xo h0,gS _ _ _ (by rw[e1,Zt];omega)];by_cases h1:j<i
  .rw[Xo Mx,Xo h1,gS _ _ _ Mx,Xo Mx];exact iO j Mx
  .rw[Xd h1];by_cases h2:j<i+ms.length
   .rw[Xo Mx,Xo h2,gS _ _ _ Mx,Xd h1,Xo h2]
   .rw[Xd Mx,Xd h2,Xo BY,Zb];congr 1;omega
 .rw[Xd h0,Xd Mx,Xd Mx,QQ Mx]
def qV(w:Wo)(g:Nat)(cs:Zvv):w.grownBy (w.setRow g cs) (some g):=
 ⟨rfl,rfl,rfl,by show w<=(w.heap.modify g _).size;rw[Array.size_modify];exact go,λk _ hk=>Qhw w g k _ (λe=>hk zbl)⟩
def xU(w:Wo)(ty:Fy)(g o qj wW:Nat)(a:Addr)(pA uw:Nat)(L:Ox)(t:Fy)(cs:Ox)(n:Nat)
  (hg:w.heap[g]? =some (.cells L.toArray t (0,0))) (hm:n=Nat.min pA qj) (hn:cs.length=n*2)
  (EU:∀j v,cs[j]? =some v->w.cell? (a.add j)=some v) (jy:o+cs.length<=L.length) (h1:∀v∈cs,v.oneCell' =true):
  (Builtin.copy_ #[77,77] ty #[el g o qj wW,am (some a) pA uw]).run prog w=
   .ok (goInt n) (w.setRow g (splice L o cs).toArray):=by
 have hl:=run_firstCells_some (P:=prog) w 2 n a pA uw cs hn EU;have cO:=Qhu (P:=prog) g o t cs 0 L.toArray w hg (by simpa using jy) h1;obtain⟨i0,hi,oI,mM,xw⟩:=Qdq IL;simp only[XC] at cO;simp[Builtin.copy_,Qax underlying77,Builtin.lenOf,sizeOf,typeInfo,hi,mM,<-hm,hl,cO,splice]
section
variable {ops : Array Oper}{w : Wo}{Q : Exit -> Act -> Wo -> Prop}{a : Act}{rest : List Oper}{o : Oper}
def wl_copyE(hgd:o.guard=none)(d s:Operand)
  (ho:o.op= .call {callee:= .builtin .copy,args:= #[d,s],argTypes:= #[77,77]})
  (ad:Addr) (qj wW pA uw g off:Nat) (hd:a.eval d= el g off qj wW) (hs:a.eval s= am (some ad) pA uw)
  (L:Ox) (t:Fy) (hg:w.heap[g]? =some (.cells L.toArray t (0,0))) (cs:Ox) (n:Nat) (hm:n=Nat.min pA qj) (hn:cs.length=n*2)
  (EU:∀j v,cs[j]? =some v->w.cell? (ad.add j)=some v) (jy:off+cs.length<=L.length) (h1:∀v∈cs,v.oneCell' =true)
  (h:∀w',Af (w'.heap[g]? =some (.cells (splice L off cs).toArray t (0,0)))->w.grownBy w' (some g)->wpList prog ops Q rest (a.put o.dst (goInt n)) w'):
  wpList prog ops Q (o::rest) a w:=by
 refine Qbi hgd λK hK=> ?_;have iq:=xU w o.type g off qj wW ad pA uw L t cs n hg hm hn EU jy h1;unfold Oper.wp;simp[execOp,ho,resolve,invoke,builtin,hd,hs,iq,Result.andThen];exact hK _ _ (h _ (Qha w g _ _ t _ hg) (qV w g _))
def vr{K:Act->Wo->Prop}{E:Prop}(hgd:o.guard=none)(d s:Operand)
  (ho:o.op= .call {callee:= .builtin .copy,args:= #[d,s],argTypes:= #[77,77]})
  (ad:Addr) (qj wW pA uw g off:Nat) (hd:a.eval d= el g off qj wW) (hs:a.eval s= am (some ad) pA uw)
  (L:Ox) (t:Fy) (hg:w.heap[g]? =some (.cells L.toArray t (0,0))) (cs:Ox) (n:Nat) (hm:n=Nat.min pA qj) (hn:cs.length=n*2)
  (EU:∀j v,cs[j]? =some v->w.cell? (ad.add j)=some v) (jy:off+cs.length<=L.length) (h1:∀v∈cs,v.oneCell' =true)
  (h:∀w',Af (w'.heap[g]? =some (.cells (splice L off cs).toArray t (0,0)))->w.grownBy w' (some g)->K (a.put o.dst (goInt n)) w'):
  if Region.wanted o (yielded ops a.tmps)=true then Oper.wp prog o a w K Q else E:=by
 have hw:Region.wanted o (yielded ops a.tmps)=true:=by simp[Region.wanted,hgd]
 rw[Xo hw];have iq:=xU w o.type g off qj wW ad pA uw L t cs n hg hm hn EU jy h1;unfold Oper.wp;simp[execOp,ho,resolve,invoke,builtin,hd,hs,iq,Result.andThen];exact h _ (Qha w g _ _ t _ hg) (qV w g _)
end
def LV(es:List aD)(i:Nat):(es.flatMap dC).drop (i*2)=(es.drop i).flatMap dC:=by
 induction es generalizing i with
 |nil=>simp
 |cons a r ih=>
  cases i with
  |zero=>simp
  |succ i=>
   rw[Zk,QH,<-ih i,show(i+1)*2=i*2+1+1 by omega];rfl
def CP(es:List aD)(i:Nat)(x:aD):(es.take i++x::es.drop i).flatMap dC=(es.flatMap dC).take (i*2)++(dC x++(es.flatMap dC).drop (i*2)):=by rw[QP,QH,<-rZ,<-LV]
def La{w:Wo}{base e sz n:Nat}{v:Va}{xs:Ox}(h:w.ownsRow base e sz v n xs)(hn:0<n):
  ∃g c L,v= el g 0 n c/\base<=g/\w.heap[g]? =some (.cells (List.toArray L) e (0,0))/\n<=c/\c<=maxLen/\L.length=c*sz/\L.take (n*sz)=xs:=by
 obtain⟨hl,⟨-,h2⟩|⟨g,c,cur,hv,hg,hh,hc,hm,hs,ht⟩⟩:=h
 .omega
 .exact⟨g,c,cur.toList,hv,hg,by simpa using hh,hc,hm,zbq,ht⟩
def PK(w:Wo):(Go.sizeOf 29).run prog w= .ok 2 w:=by obtain⟨i0,hi,oI,mM,xw⟩:=Qdq IL;simp[sizeOf,typeInfo,hi,mM]
def DG(w:Wo)(base vb:Nat)(s:Va)(xs:List aD)(i:Nat)(x:aD)(hs:cV w base s xs)(ey:base<=w.heap.size)(hi:i<=xs.length)(hl:xs.length<=10000)
  (oQ:vb<w.heap.size) (bT:s.ownBlock≠some vb) (hv:aq w vb 29 (dC x)) (hx:eR x):
  Calls prog 88 #[s,ac i,el vb 0 1 1] w λe w' =>∃v',e= .returned v'/\cV w' base v' (xs.take i++x::xs.drop i)/\w.grownBy w' s.ownBlock:=by
 have Hx:Af (Es w w (el vb 0 1 1) [x]):=⟨kT rfl go Do ⟨oQ,λj u hu=>by
  rw[QR];exact hv.cell (by simpa using hu)⟩,zdf⟩
 obtain⟨Hs,YU,Hl,Hvb,Hv,fq⟩:=us hs ey hl oQ hv bT;clear hv bT hx;by_cases ph:i=xs.length
 .subst ph;obtain⟨A,c,rfl,hc,hm⟩:=(Sl.bU hs).form;clear hs hl ey oQ hm;go_in;go_wp2_with((with_reducible refine wl_append_e (os:= .tmp 23) (ox:= .tmp 24) (base:=base) (xs:=xs) Hs.o Hx.o ?_ ?_ ?_ ?_ ?_);(·have:=Hl.o;simp;omega);(·exact YU.o);(·rfl);(·rfl);intro v3 w3 sD qa;have H3:=aa sD;have G3:=aa qa;clear sD qa);all_goals(go_ret;exact⟨_,rfl,by simpa using H3.o,by first|exact G3.o|(cases A<;>exact G3.o)⟩)
 .have avN :i<xs.length:=by omega
  obtain⟨g,c,L,rfl,hg,hh,hc,hm,cz,ht⟩:=La hs Mx;have gZ:vb≠g:=λe=>fq.o zcG;obtain⟨Hnb,Hg,Hh,uk⟩:=rx gZ hg hh cz;have⟨C,hC⟩:=eX (xs.flatMap dC);rw[<-hC] at ht;have HC:=aa hC;have je:Af (C.length=xs.length*2):=by rw[hC];exact RU xs
  have Ht:=aa ht;have Hm:=aa hm;have Hgl:Af (g<w.heap.size):=(Qy.1 hh).1;obtain⟨X1,hX1⟩:∃X1:List Va,X1=C.drop (i*2):=⟨_,rfl⟩;have tl:=aa hX1;have agW:X1.length=(xs.length - i)*2:=by rw[hX1,Zt,je.o];omega
  have ahd:Af (∀u∈X1,u.oneCell' =true):=λu hu=>by rw[hX1,hC] at hu;exact yJ xs u (Q6 hu)
  have HXc:Af (∀W:Wo,W.heap[g]? =w.heap[g]?->∀j v,X1[j]? =some v->W.cell? (((an g (i*2)):Addr).add j)=some v):=by intro W hW j v hj;rw[dP,Qen W g (i*2+j) _ _ _ (hW.trans Hh.o)];rw[tl.o,Zb] at hj;have e:=XF (λl=>l[i*2+j]?) Ht.o;simp only[Ze] at e;have aJ:i*2+j<xs.length*2:=(by have:=(Ql.1 hj).1;rw[je.o] at this;exact this);rw[Xo aJ,hj] at e;simpa using e
  have Kf:=aa agW;clear hh cz ht hs hg hX1 hC agW gZ;have hci:¬(c=i):=Mx;have hp1:(0:Int)<=(i:Int)+1:=Mx;have Tx:(i:Int)+1<=(xs.length:Int):=Mx;have Wn:(i:Int)<=(xs.length:Int):=Mx;have hp4:(i:Int)<=(xs.length:Int)+1:=Mx;have nZ:IntKind.i64.wrap ((xs.length:Int)+1)=(xs.length:Int)+1:=zbS;have fp:IntKind.i64.wrap ((i:Int)+1)=(i:Int)+1:=zbS;have YD :(xs.take i++x::xs.drop i).length=xs.length+1:=BY;have YS :=aa YD;have HE:Af (∀W j v,aq W vb 29 (dC x)->(dC x)[j]? =some v->W.cell? (((ol vb):Addr).add j)=some v):=λW j v hW hj=>by rw[dP,QR];exact hW.cell hj
  clear ey oQ hm YD;by_cases BH:xs.length+1<=c
  .have avR:¬(c=i+1):=(by omega);have TA:¬((c:Int)<(xs.length:Int)+1):=Mx;have Hov:Af (∀lb cb,(callFunc 158 #[el vb 0 1 1,el g ((i+1)*2) lb cb]).run prog w= .ok (.value false) w):=λlb cb=>by
    have Zx:=Hv.o;unfold aq at Zx;rw[run_callFunc_extern func158 KJ KJ KJ (e:=Extern.SlicesOverlaps.overlaps #[77,77] #[4]) KJ,
     Lib.run_overlaps_apart w 77 4 29 underlying77 2 PK (ol vb) (an g ((i+1)*2)) 1 1 lb cb Hnb.o 29 29 2 L.length (by simp[World.shape?,Zx,dC]) (by simp[World.shape?,Hh.o]) (by have:=uk.o;omega) (by simp[World.frozen?,Zx]) (by simp[World.frozen?,Zx])]
    rfl
   have hov:=Hov.o;clear Hov;go_in;go_wp2_with(simp only[hov]);have G2:=aa Hh.o;have j2:=aa (HXc.o w.drew rfl);have YG:(i+1)*2+X1.length<=L.length:=(by rw[Kf.o,uk.o];omega);have BU:=aa YG;clear YG;go_region_law (refine vr rfl (.tmp 73) (.tmp 76) rfl (an g (i*2)) (xs.length - i) (c - (i+1)) (xs.length+1 - i) (c - i) g ((i+1)*2) zbt zbt L 29 G2.o X1 (xs.length - i) ?_ Kf.o j2.o BU.o ahd.o ?_;(·simp only[Qey];split<;>omega);intro w3 qa jW;have B3:=aa ((ga ((Xj w w).drew) (some g)).trans jW);clear jW);have Ff:Af ((splice L ((i+1)*2) X1).length=c*2):=(by show _=_;rw[length_splice _ _ _ BU.o];exact uk.o);obtain⟨L3,Z9⟩:∃L3:List Va,L3=splice L ((i+1)*2) X1:=⟨_,rfl⟩;rw[<-Z9] at qa Ff;have Xk:=aa Z9;clear Z9 j2 G2;have HV3:Af (∀j v,(dC x)[j]? =some v->w3.cell? (((ol vb):Addr).add j)=some v):=λj v hj=>HE.o w3 j v (Hv.o.grown B3.o (λe=>Hnb.o (Qr e))) hj;have BT:Af (i*2+(dC x).length<=L3.length):=(by show i*2+2<=_;rw[Ff.o];omega);go_wp2_with(refine wl_copyE rfl (.tmp 80) (.tmp 81) rfl (ol vb) _ _ _ _ g (i*2) rfl rfl L3 29 qa.o (dC x) 1 ?_ rfl HV3.o BT.o (qQ _ _) ?_;(·simp only[Qey];split<;>omega);intro w4 og sm;have B4:=aa (B3.o.trans sm);clear sm);go_ret;have hX:=Lx L C (i*2) (xs.length*2) (dC x) je.o Ht.o Mx (by rw[uk.o];show _+2<=_;omega);rw[<-tl.o,show i*2+(dC x).length=(i+1)*2 by show i*2+2=_;omega,<-Xk.o] at hX;refine⟨_,rfl,?_,B4.o⟩;unfold cV;rw[CP,<-HC.o,YS.o,<-tl.o];refine⟨zcd,.inr ⟨g,c,_,rfl,Hg.o,og.o,BH,Hm.o,?_,?_⟩⟩
   .rw[QW,length_splice _ _ _ BT.o];exact Ff.o
   .rw[<-hX];show List.take _ (splice L3 (i*2) (dC x))=List.take _ _;congr 1;show(xs.length+1)*2=xs.length*2+2;omega
  .have TJ :c=xs.length:=(by omega);subst TJ;have⟨k,hk⟩:=eX (xs.length+1 - i);have AA:i+k=xs.length+1:=Mx
   have Bu:Af (∀ty,(Builtin.append_ #[77,3] ty #[el g 0 i xs.length,ac k]).run prog w= .ok (el w 0 (i+k) (grownCap w (i+k) xs.length 29))
     (qr w.drew ((C.take (i*2)).toArray++Builtin.zeroCells #[ip 0,gc 0] k++Builtin.zeroCells #[ip 0,gc 0] (grownCap w (i+k) xs.length 29 - (i+k))) 29)):=by
    intro ty;obtain⟨i0,ml,hz,lz,hb⟩:=Qdq IL;have hl' :=Hl.o;refine Lib.run_append_grow_zeros w 77 3 ty 29 i0 _ .i64 .i64 underlying77 underlying3 ml hz _ i xs.length _ ?_ k Mx Mx Mx Mx zbU (by rw[hb];exact growslice_fits Mx Mx);rw[lz];refine run_firstCells_some w.drew 2 i _ i _ _ (by rw[Qu,je.o];omega) (λj v hj=> ?_);rw[dP,QR];show w.cell? _=_;rw[Qen w g j _ _ _ Hh.o];have e:=XF (λl=>l[j]?) Ht.o;rw[Ze] at hj;split at hj
    .simp only[Ze] at e;rw[Xo Mx] at e;simpa[hj] using e
    .cases hj
   have pj:i+k<=grownCap w (i+k) xs.length 29:=grownCap_ge _ _ _ _;have hle:=aa (Qhm w (i+k) xs.length 29 (by have:=Hl.o;unfold maxLen;omega));generalize AB:grownCap w (i+k) xs.length 29=c2 at*;clear AB;obtain⟨L2,hL2⟩:∃L2:List Va,L2.toArray=(C.take (i*2)).toArray++Builtin.zeroCells #[ip 0,gc 0] k++Builtin.zeroCells #[ip 0,gc 0] (c2 - (i+k)):=⟨Array.toList _,rfl⟩;have abD:Af (L2.length=c2*2):=(by have:=XF Array.size hL2;simp[size_zeroCells,je.o] at this;show _=_;omega);have an2:Af (L2.take (i*2)=C.take (i*2)):=(by have:=XF Array.toList hL2;simp only[Array.toList_append] at this;show _=_;rw[show L2=_ from this,QY,Qde (by simp[je.o];omega),Qj BY]);have YQ:Af (∀ty,(Builtin.append_ #[77,3] ty #[el g 0 i xs.length,ac ((xs.length+1 - i:Nat):Int)]).run prog w= .ok (el w 0 (xs.length+1) c2) (qr w.drew L2.toArray 29)):=(by rw[hL2,<-hk,<-AA];exact Bu.o);clear hL2 Bu;rw[AA] at pj;have⟨W2,cE⟩:=eX (qr w.drew L2.toArray 29);rw[<-cE] at YQ;have anX:Af (W2.heap[w.heap.size]? =some (.cells L2.toArray 29 (0,0))):=(by rw[cE];exact Qea w.drew _);have abB:Af (ci w W2):=(by rw[cE];exact⟨rfl,rfl,rfl,Sv,λk hk=>heap_alloc_old w.drew _ hk⟩);clear cE;have anW:Af (∀j v,(dC x)[j]? =some v->W2.cell? (((ol vb):Addr).add j)=some v):=λj v hj=>HE.o W2 j v (Hv.o.on abB.o) hj;have BU:Af (i*2+(dC x).length<=L2.length):=(by show i*2+2<=_;rw[abD.o];omega);have avS:¬(c2=i):=Mx;have ar1 :¬(c2=i+1):=Mx;have DZ:IntKind.i64.wrap ((xs.length:Int)+1 - i)=((xs.length+1 - i:Nat):Int):=zbS;clear AA;subst hk;have bT:=ph;go_in;go_wp2_with(first|(at_builtin;refine Lib.wpList_append_run _ rfl _ _ _ _ rfl _ _ rfl rfl _ _ (YQ.o _) ?_)|(refine wl_copyE rfl (.tmp 43) (.tmp 44) rfl (ol vb) _ _ _ _ w (i*2) rfl rfl L2 29 anX.o (dC x) 1 ?_ rfl anW.o BU.o (qQ _ _) ?_;(·simp only[Qey];split<;>omega);intro w3 qa jW;have B3:=aa (abB.o.grown jW abB.o.size (λk hk=>by cases(Qr hk);exact go));clear jW));have G3:=aa qa;have Ff:Af ((splice L2 (i*2) (dC x)).length=c2*2):=(by show _=_;rw[length_splice _ _ _ BU.o];exact abD.o);obtain⟨L3,Z9⟩:∃L3:List Va,L3=splice L2 (i*2) (dC x):=⟨_,rfl⟩;rw[<-Z9] at G3 Ff;have Xk:=aa Z9;clear Z9 qa;have anV:=aa (HXc.o w3.drew (B3.o.block g Hgl.o));have B3d:=aa B3.o.drew;have YF:(i+1)*2+X1.length<=L3.length:=(by rw[Kf.o,Ff.o];omega);have BT:=aa YF;clear YF;go_region_law (refine vr rfl (.tmp 50) (.tmp 53) rfl (an g (i*2)) (xs.length - i) (c2 - (i+1)) (xs.length - i) (xs.length - i) w ((i+1)*2) zbt zbt L3 29 G3.o X1 (xs.length - i) ?_ Kf.o anV.o BT.o ahd.o ?_;(·simp only[Qey];split<;>omega);intro w4 og sm;have B4:=aa (B3d.o.grown sm B3d.o.size (λk hk=>by cases(Qr hk);exact go));clear sm);go_wp2_with fail;go_ret;have hX:=Ly L2 C (i*2) (xs.length*2) (dC x) je.o an2.o Mx (by rw[abD.o];show _+2<=_;omega);rw[<-tl.o,show i*2+(dC x).length=(i+1)*2 by show i*2+2=_;omega,<-Xk.o] at hX;refine⟨_,rfl,?_,ga B4.o _⟩;unfold cV;rw[CP,<-HC.o,YS.o,<-tl.o];refine⟨zcd,.inr ⟨w.heap.size,c2,_,rfl,YU.o,og.o,pj,hle.o,?_,?_⟩⟩
   .rw[QW,length_splice _ _ _ BT.o];exact Ff.o
   .rw[<-hX];show List.take _ (splice L3 ((i+1)*2) X1)=List.take _ _;congr 1;show(xs.length+1)*2=xs.length*2+2;omega
end
section
variable{w w' :Wo}{S T:FV}{v:Va}{c:ak}{b base:Nat}{cs:List ak}{l:List aD}
def jw.apart(h:jw w S v c)(hT:∀x,T x->S x\/w<=x):jw w T v c:=by obtain⟨bv,sv,ps,e,h1,h2,h3,h4⟩:=h.ex;exact⟨bv,sv,ps,e,h1,Sl.apart h1 h2 hT,h3.apart hT,h4⟩
def Nz(m:ak×Va×Va):List Va:=[.int .i64 m.1.ax,.int .i64 m.1.depth,m.2.1,m.2.2]
def chA(m:ak×Va×Va):Va:= .agg #[.int .i64 m.1.ax,.int .i64 m.1.depth,m.2.1,m.2.2]
def VN{m:ak×Va×Va}(h:jw w S (chA m) m.1):∀u∈Nz m,u.oneCell' =true:=by
 obtain⟨bv,sv,ps,e,h1,-,h2,-⟩:=h.ex;obtain⟨A,c,hv,-,-⟩:=h1.form;obtain⟨A2,c2,AO⟩:=h2.s.form;unfold chA at e;injection e with e;simp at e;obtain⟨e1,e2⟩:=e;intro u hu;simp[Nz] at hu;obtain rfl|rfl|rfl|rfl:=hu
 .rfl
 .rfl
 .rw[e1,hv];rfl
 .rw[e2,AO];rfl
def nA(S:FV)(v:Va):Nat->Prop:=λx=>S x\/v.ownBlock=some x
structure eN(w:Wo)(S:FV)(base:Nat)(v:Va)(cs:List ak):Prop where
 ex:∃ms:List (ak×Va×Va),w.ownsRow base 72 4 v ms.length (ms.flatMap Nz)/\(∀m∈ms,jw w (nA S v) (chA m) m.1)/\ms.map Prod.fst=cs
def eN.on(h:eN w S base v cs)(hb:ci w w'):eN w' S base v cs:=by obtain⟨ms,h1,h2,h3⟩:=h.ex;exact⟨ms,aS h1 hb,λm hm=>(h2 m hm).on hb,h3⟩
def eN.low{b' :Nat}(h:eN w S b v cs)(hb:b'<=b):eN w S b' v cs:=by obtain⟨ms,h1,h2,h3⟩:=h.ex;exact⟨ms,fB h1 hb,h2,h3⟩
def eN.mono(h:eN w S b v cs)(hT:∀x,T x->S x):eN w T b v cs:=by obtain⟨ms,h1,h2,h3⟩:=h.ex;exact⟨ms,h1,λm hm=>(h2 m hm).mono (λx hx=>hx.imp (hT x) id),h3⟩
def eN.form(h:eN w S base v cs):∃A n c,v= am A n c:=by obtain⟨ms,h1,-,-⟩:=h.ex;rcases h1.2 with⟨rfl,_⟩|⟨g,cap,cur,rfl,_⟩<;>exact⟨_,_,_,rfl⟩
def eN.own(h:eN w S base v cs):∀k,v.ownBlock=some k->base<=k/\k<w:=by obtain⟨ms,h1,-,-⟩:=h.ex;exact λk hk=>Xr h1 k hk
def nG{g:Nat}{bv sv:Va}(hx:aq w g 72 [ac c.ax,ac c.depth,bv,sv])(hc:jw w (λx=>S x\/x=g) (.agg #[ac c.ax,ac c.depth,bv,sv]) c)(hb:base<=g):eN w S base (el g 0 1 1) [c]:=by
 refine⟨[(c,bv,sv)],⟨rfl,.inr ⟨g,1,_,rfl,hb,hx,go,AN,rfl,rfl⟩⟩,λm hm=> ?_,rfl⟩;rw[Qx] at hm;subst hm;refine hc.mono (λx hx=> ?_);obtain hx|hx:=hx
 .exact Or.inl hx
 .exact Or.inr (Qr hx).symm
def uZ(w:Wo)(S:FV)(base:Nat)(v:Va)(cs:List ak)(h:eN w S base v cs)(vx:Va)(b' :Nat)(ds:List ak)(hx:eN w (nA S v) b' vx ds)(hl:cs.length+ds.length<=10000)(hb:base<=w)(ty:Fy):
  ∃v' w',(Builtin.append_ #[35,35] ty #[v,vx]).run prog w= .ok v' w'/\eN w' S base v' (cs++ds)/\w.grownBy w' v.ownBlock:=by
 obtain⟨ms,h1,h2,h3⟩:=h.ex;obtain⟨ns,k1,k2,k3⟩:=hx.ex;have Wq:ms.length=cs.length:=by rw[<-h3,Qq]
 have oc:ns.length=ds.length:=by rw[<-k3,Qq]
 obtain⟨v',w',r1,r2,r3,r4⟩:=cy (P:=prog) w base 35 ty 72 _ 4 64 underlying35 Yu rfl Fd v ms.length _ h1 (B:=w.heap.size) vx ns.length (ns.flatMap Nz)
  (Sl.bU k1) (λu hu=>by obtain⟨m,hm,hu⟩:=QT.1 hu;exact VN (k2 m hm) u hu) Do Mx hb
 have bm:∀m∈ms++ns,jw w (nA S v) (chA m) m.1:=λm hm=>by
  obtain hm|hm:=Qz.1 hm
  .exact h2 m hm
  .exact(k2 m hm).mono (λx hx=>Or.inl hx)
 have kG:=aG.dH r3 (λx _ e=>e);refine⟨v',w',r1,⟨ms++ns,by rw[Qo,QP];exact r2,λm hm=> ?_,by rw[QL,h3,k3]⟩,r3⟩;have ht:∀x,nA S v' x\/v.ownBlock=some x->nA S v x\/w<=x:=λx hx=>by
  rcases hx with(hx|hx)|hx
  .exact Or.inl (Or.inl hx)
  .rcases r4 with r4|r4
   .exact Or.inl (Or.inr (r4.symm.trans hx))
   .rw[r4] at hx;rw[<-Qr hx];exact Or.inr go
  .exact Or.inl (Or.inr hx)
 exact(((bm m hm).apart ht).aL kG (λx hx=>Or.inr hx)).mono (λx hx=>Or.inl hx)
def Cd(h:ur c)(half ax:Nat):(fR c half ax).blocks.length<=c.blocks.length:=by
 obtain⟨s,r,b,br,h1,h2,h3,-,-⟩:=h.cons;have ha:∀(f d:Nat) (l:List aD) (bs:Fr) (ss:List ay),(bZ f d l bs ss).blocks.length<=bs.length+1:=λf d l bs ss=>by
  unfold bZ;split
  .exact Q0 _
  .exact go
 rw[fR,h2];split
 .exact Qh (ha _ _ _ _ _) Sv
 .exact ha _ _ _ _ _
structure Lw(w W:Wo):Prop where
 b:Below w w W
def Lw.on{W W' :Wo}(h:Lw w W)(hb:ci W W'):Lw w W' :=⟨Pd h.b hb⟩
def eN.apart(h:eN w S b v cs)(hT:∀x,T x->S x\/w<=x):eN w T b v cs:=by
 obtain⟨ms,h1,h2,h3⟩:=h.ex;refine⟨ms,h1,λm hm=>(h2 m hm).apart (λx hx=> ?_),h3⟩;obtain hx|hx:=hx
 .exact(hT x hx).imp (λh=>Or.inl h) id
 .exact Or.inl (Or.inr hx)
def gX:∀(k:Nat) (c:ak) (e:aD),(cP k c e).length<=k+1
 |0,_,_=>lm
 |k+1,c,e=>by
  unfold cP;split
  .exact Qdc lm
  .split
   .exact Qdc lm
   .split
    .rw[Qo];exact Qdc (gX k _ e)
    .exact Qdc (gX k _ e)
def cV.on(h:cV w base v l)(hb:ci w w'):cV w' base v l:=aS h hb
def Vo(h:cV w base v l)(ho:∀e∈l,eR e):Es w w v l:=⟨Sl.bU h,ho⟩
def Il(w:Wo)(S:FV)(hS:∀x,S x->x<w.heap.size)(c:ak)(hc:ur c)(v:Va)(h:jw w S v c)(cC:c.blocks.length<=4096)(e:aD)(he:tw e)(MF:eR e)(aJ:c.first.length<9):
  Calls prog 29 #[v,jz e] w λr w' =>∃v',r= .returned v'/\eN w' S w v' [bZ c.ax c.depth (qi c.first e) c.blocks.tail c.ah.tail]/\ci w w' :=by
 have⟨cv,ZZ⟩:=eX (bZ c.ax c.depth (qi c.first e) c.blocks.tail c.ah.tail);rw[<-ZZ];have Hcv:=aa ZZ;clear ZZ;obtain⟨s1,r1,b1,br,k1,k2,k3,k4,k5⟩:=hc.cons;obtain⟨bv,sv,ps,rfl,hb,pq,hs,fc⟩:=h.ex;obtain⟨Ab,fQ,rfl,-,-⟩:=hb.form;obtain⟨As,gq,rfl⟩:=hs.s.form;have dh:ps.length=c.ah.length:=zdQ;have jX:c.blocks.length=ps.length:=zcP;have⟨n,hn⟩:=eX ps.length;rw[jX,<-hn] at hb pq cC;rw[jX,<-hn];rw[<-hn] at hs;cases ps with
 |nil=>rw[k1] at dh;simp at dh
 |cons p0 pr=>
 obtain⟨bb,ob,ug,oQ,-,-,bO,-⟩:=hb.cells zdw;obtain rfl:Ab=some (an bb ob):=zdH;obtain⟨bs,os,ks,Na,iV,-,-,s2⟩:=hs.s.cells (k:=0) (p:=p0) rfl;obtain rfl:As=some (an bs os):=zdI;rw[Xz,XC] at s2;have tA:p0.1=s1:=zam;have gY:pr.map Prod.fst=r1:=zan;have eE:=hs.s.es p0 (Qm ..);rw[tA] at eE;obtain⟨Ae,ce,hU,-,-⟩:=eE.1.1.form;have⟨ne,bT⟩:=eX s1.es.length;rw[<-bT] at hU;have JN:=hs.e p0 (Qm ..);rw[hU] at s2 eE JN;have⟨ax,eo⟩:=eX c.ax;have⟨dep,eK⟩:=eX c.depth;have⟨er,pU⟩:=eX e.print;have⟨ek,mF⟩:=eX e.block;unfold jz;rw[<-eo,<-eK,<-pU,<-mF];have ei:=hn;have gZ:n=br.length+1:=zdu;have AQ:=fZ (hc.ok.right s1 (by rw[k1];exact Qm ..));obtain⟨W0,aY,X0,B0⟩:=nW w [ac ax,ac dep,el bb ob n fQ,el bs os n gq] 72;have lz:W0.heap.size=w.heap.size+1:=zbf;obtain⟨W1,aW,E1,B1⟩:=nW W0 [ip er,gc ek] 29;have fI:=Pd B0 B1;have X1:=X0.on B1;have⟨eb,mR⟩:=eX (w.heap.size+1);rw[lz,<-mR] at E1;have HW:=iJ aY.symm aW.symm mR.symm;obtain⟨tl,Yb,wP,EH,wN⟩:=ul X1 E1 fI ((fI.cell (XX s2)).trans s2) (gA eE.1 fI);have wE:=iJ (dU hb fI) pq (hs.on fI);have HI:Af ((∀x,S x->x<w.heap.size)/\ur c/\n<=4096/\(ax=c.ax/\dep=c.depth/\er=e.print/\ek=e.block)/\tw e/\eR e/\c.ah=s1::r1/\c.blocks=b1::br/\c.first=s1.es/\p0.1=s1/\pr.map Prod.fst=r1/\n=pr.length+1/\n=br.length+1/\ne=s1.es.length/\s1.es.length<=9/\dV s1.es=true/\Ap S (am Ae ne ce)):=
  ⟨hS,hc,cC,⟨eo,eK,pU,mF⟩,he,MF,k1,k2,k5,tA,gY,ei,gZ,bT,AQ.1,AQ.2.1,JN⟩
 have N5:(ne:Int)<9:=by rw[k5,<-bT] at aJ;exact Xi.2 aJ
 have anP:Af (s1.es.length<9):=by rw[<-k5];exact aJ
 have jU:(0:Int)<n:=by rw[ei];exact Xi.2 (Qfz _)
 have n1:(1:Int)<=n:=jU;have ncb:(1:Int)<=fQ:=by have h1:=nk hb;rw[jX] at h1;exact Int.ofNat_le.2 (Qh Sv h1)
 have ncs:(1:Int)<=gq:=by have h1:=nk hs.s.sl;exact Int.ofNat_le.2 (Qh Sv h1)
 have JP:=Jg (x:=b1) (r:=br) (by have h1:=hb;rw[k2] at h1;exact h1) gZ;have cO:=Cf hs.s ei;have AX:fQ=1->n=1:=λh=>by have h1:=nk hb;rw[jX,h] at h1;simp at h1;rw[ei,h1];rfl
 have Wi:gq=1->n=1:=λh=>by have h1:=nk hs.s.sl;rw[h] at h1;simp at h1;rw[ei,h1];rfl
 obtain⟨tb,pS⟩:∃tb:Va,(fQ≠1/\tb= el bb (ob+1) (n - 1) (fQ - 1))\/(fQ=1/\n=1/\tb= el bb ob 0 0):=by
  by_cases hq:fQ=1
  .exact⟨_,Or.inr ⟨hq,AX hq,rfl⟩⟩
  .exact⟨_,Or.inl ⟨hq,rfl⟩⟩
 obtain⟨ts,ZC⟩:∃ts:Va,(gq≠1/\ts= el bs (os+3) (n - 1) (gq - 1))\/(gq=1/\n=1/\ts= el bs os 0 0):=by
  by_cases hq:gq=1
  .exact⟨_,Or.inr ⟨hq,Wi hq,rfl⟩⟩
  .exact⟨_,Or.inl ⟨hq,rfl⟩⟩
 have HTb:Af (Ns W1 W1 .i64 tb br/\Ap S tb):=by
  rcases pS with⟨hq,rfl⟩|⟨hq,-,rfl⟩
  .exact⟨dU (JP.1 hq) fI,rG pq (by rw[gZ];exact Qfz _)⟩
  .exact⟨dU (JP.2 hq) fI,rG pq (by rw[gZ];exact Qfz _)⟩
 have HTs:Af (iP W1 S ts pr):=by
  rcases ZC with⟨hq,rfl⟩|⟨hq,-,rfl⟩
  .exact⟨(cO.1 hq).on fI,rG hs.a (by rw[ei];exact Qfz _),λp hp=>hs.e p (Qs _ hp)⟩
  .exact⟨(cO.2 hq).on fI,rG hs.a (by rw[ei];exact Qfz _),λp hp=>hs.e p (Qs _ hp)⟩
 have s2' :=EH.o;have x3:=X1.j3;obtain⟨e0,e1⟩:=gh E1;clear aJ JP cO AX Wi;change Af _ at pS ZC;clear hS hc h cC he MF k1 k2 k3 k4 k5 hb pq hs fc dh jX hn oQ bO Na iV s2 tA gY eE hU bT JN eo eK pU mF ei gZ AQ aY X0 B0 lz aW E1 B1 fI X1 mR;go_in;go_upto_region 1 with fail;rw[HW.p1,HW.p2];try rw[HW.q2]
 go_upto_region 3 with fail;have HBs:Af (Calls prog 82 #[am Ae ne ce,.agg #[ip er,gc ek],.func (.func 83) #[] #[]] W1 λr w' =>∃found,r= .returned (.tuple #[ac (tr s1.es e),.bool found])/\ci W1 w'):=by have h1:=An W1 _ s1.es e wN.o HI.o.2.2.2.2.2.2.2.2.2.2.2.2.2.2.1 HI.o.2.2.2.2.2.2.2.2.2.2.2.2.2.2.2.1;exact zfn
 have⟨I0,Iv⟩:=eX (tr s1.es e);rw[<-Iv] at HBs;have ID:=dK Iv (by rw[Iv];exact VB _ _:I0<=s1.es.length);clear Iv s2' x3;go_upto_region 4 with(go_at_call 82;refine HBs.o.mono ?_;rintro e W2 ⟨found,rfl,b2⟩;have B2:=aa b2;clear b2);have tF:=B2.o.drew;have⟨Wd,dJ⟩:=eX W2.drew;rw[<-dJ] at tF;have AK:=aa (Pd wP.o tF);have HXd:=tl.o.on tF;have abF:=Yb.o.on tF;obtain⟨x0,x1,x2,x3⟩:=mm HXd;obtain⟨e0,e1⟩:=gh abF;have HEd:=aa (gA wN.o tF);have UM:c.blocks.tail=br/\c.ah.tail=r1/\c.first=s1.es:=⟨by rw[HI.p8];rfl,by rw[HI.p7];rfl,HI.p9⟩;have⟨n9,hn9⟩:=eX ((qi s1.es e).length);have Hn9:=aa hn9;have HAh:Af (∀W v9,ci Wd W->cV W Wd v9 (qi s1.es e)->Calls prog 87 #[ac ax,ac dep,v9,tb,ts] W λr w' =>∃v,r= .returned v/\jw w' S v cv/\ci W w'):=λW v9 hW ho=>by
  have TM :∀x,S x->x<Wd.heap.size:=λx hx=>Qn (HI.p1 x hx) AK.o.size;have h1:=pR W S (λx hx=>Qn (TM x hx) hW.size) ax dep (qi s1.es e) br pr v9 tb ts (by rw[HI.o.2.2.2.1.2.1];exact HI.p2.ok.d8)
   (Vo ho (λx hx=>by
    obtain rfl|hx:=QA.1 ((rV s1.es e).mem_iff.1 hx)
    .exact HI.p6
    .exact wN.q1 x hx)) (jG ho TM) (by rw[RJ];exact Nat.succ_le_of_lt anP.o)
   (dU (dU HTb.p1 tF) hW) HTb.q1 ((HTs.o.on tF).on hW) (by have h2:=HI.p12;have h3:=HI.p13;omega)
   (by have h2:=HI.p3;have h3:=HI.p13;omega) (λx hx=>HI.p2.Ej x (by rw[HI.p8];exact Qs _ hx))
  rw[HI.p11,HI.o.2.2.2.1.1,HI.o.2.2.2.1.2.1] at h1;rw[Hcv.o,UM.1,UM.2.1,UM.2.2,HI.o.2.2.2.1.1,HI.o.2.2.2.1.2.1];exact h1
 have L:Lw Wd Wd:=⟨pi⟩;clear tF HXd abF UM hn9 HBs;refine bL (λj=>[].contains j) (λW=>ci Wd W) KJ ?_;rw[<-dJ];clear dJ;refine tKz 0 25 w pm (λW hW=>zM) L.b ?_;try simp only[Act.put,Qb,Qc,Qd]
 refine tKz 1 26 (ac ax) pm (λW hW=>zaE) L.b ?_;try simp only[Act.put,Qb,Qc,Qd]
 refine tKz 2 27 (ro w.heap.size 1) pm (λW hW=>zM) L.b ?_;try simp only[Act.put,Qb,Qc,Qd]
 refine tKz 3 28 (ac dep) pm (λW hW=>by have hx:=(hW.cell (XX x1)).trans x1;go_simp) L.b ?_;try simp only[Act.put,Qb,Qc,Qd]
 refine tKz 4 29 (am Ae ne ce) pm (λW hW=>zM) L.b ?_;try simp only[Act.put,Qb,Qc,Qd]
 refine tKz 6 31 (ac I0) pm (λW hW=>zM) L.b ?_;try simp only[Act.put,Qb,Qc,Qd]
 refine tKz 7 32 (.agg #[ip er,gc ek]) pm (λW hW=>Rd) L.b ?_;try simp only[Act.put,Qb,Qc,Qd]
 refine tKz 10 35 (ro w.heap.size 2) pm (λW hW=>zM) L.b ?_;try simp only[Act.put,Qb,Qc,Qd]
 refine tKz 11 36 (el bb ob n fQ) pm (λW hW=>by have hx:=(hW.cell (XX x2)).trans x2;go_simp) L.b ?_;try simp only[Act.put,Qb,Qc,Qd]
 refine tKz 12 37 tb pm (λW hW=>by rcases pS.o with⟨hq,hv⟩|⟨hq,MD,hv⟩<;>(rw[hv];(try subst hq);(try subst MD);go_simp)) L.b ?_;try simp only[Act.put,Qb,Qc,Qd]
 refine tKz 13 38 (ro w.heap.size 3) pm (λW hW=>zM) L.b ?_;try simp only[Act.put,Qb,Qc,Qd]
 refine tKz 14 39 (el bs os n gq) pm (λW hW=>zcc) L.b ?_;try simp only[Act.put,Qb,Qc,Qd]
 refine tKz 15 40 ts pm (λW hW=>by rcases ZC.o with⟨hq,hv⟩|⟨hq,MD,hv⟩<;>(rw[hv];(try subst hq);(try subst MD);go_simp)) L.b ?_;try simp only[Act.put,Qb,Qc,Qd]
 refine gR [5] [8] (λa0 i j a W=>∃VZ YW,a=(a0.put (some 30) VZ).put (some 33) YW/\Lw Wd W/\(1<=i->∃A c,VZ= am A s1.es.length c/\cV W Wd VZ s1.es)/\(1<=j->∃g,YW= el g 0 1 1/\aq W g 29 [ip er,gc ek])/\(1<=i->1<=j->VZ.ownBlock≠YW.ownBlock)) 4 rfl KJ ⟨_,_,Ux zac,L,λh=>absurd h Fd,λh=>absurd h Fd,λh=>absurd h Fd⟩ ⟨?_,trivial⟩ ⟨?_,trivial⟩ ?_;all_goals clear L
 .rintro j a W ⟨VZ,YW,rfl,L,-,HB,-⟩;refine bJ rfl (λK hK=> ?_);simp only[Act.put,Qb,Qc,Qd];go_simp;go_at_call 89;refine Qaw (vU W _ _ s1.es (gA HEd.o L.b) go (Qh HI.o.2.2.2.2.2.2.2.2.2.2.2.2.2.2.1 Fd)) ?_;rintro e V ⟨v5,rfl,o5,b⟩;obtain⟨A5,c5,rfl⟩:=cV.form o5;go_simp;refine hK.out _ _ ⟨λ_=>(L.on b).b,am A5 s1.es.length c5,YW,?_,L.on b,λ_=>⟨_,_,rfl,fB o5 L.b.size⟩,λh=>(HB h).imp λg hg=>⟨hg.1,hg.2.on b⟩,λ_ h he=> ?_⟩
  .exact zef
  .obtain⟨g,rfl,X⟩:=HB h;exact absurd (Qn X.lt (Xr o5 g (he.trans rfl)).1) (XI _)
 .rintro i a W ⟨VZ,YW,rfl,L,HA,-,-⟩;refine bJ rfl (λK hK=> ?_);obtain⟨V,hV,X,b⟩:=nW W [ip er,gc ek] 29;simp only[Act.put,Qb,Qc,Qd];go_simp;rw[<-hV];refine hK.out _ _ ⟨λ_=>(L.on b).b,VZ,el W 0 1 1,?_,L.on b,λh=>(HA h).imp λA hA=>hA.imp λc hc=>⟨hc.1,hc.2.on b⟩,λ_=>⟨_,rfl,X⟩,λh _ he=> ?_⟩
  .exact zef
  .obtain⟨A,c,rfl,o⟩:=HA h;exact absurd (Xr o _ (he.trans rfl)).2 (XI _)
 .rintro a V8 ⟨VZ,YW,rfl,L,HA,HB,HN⟩;obtain⟨A5,c5,rfl,O5⟩:=HA go;obtain⟨g8,rfl,X8⟩:=HB go;have N5:=HN go go;clear HA HB HN;simp only[Act.put,Qb,Qc,Qd];refine ju 9 rfl KJ λK hK=> ?_;have HI9:=DG V8 Wd _ _ s1.es I0 e O5 L.b.size ID.q1 (Qh HI.o.2.2.2.2.2.2.2.2.2.2.2.2.2.2.1 Fd) X8.lt N5 (by unfold dC;rw[<-HI.o.2.2.2.1.2.2.1,<-HI.o.2.2.2.1.2.2.2];exact X8) HI.p6;clear N5;go_simp;go_at_call 88;refine Qaw HI9 ?_;rintro e V9 ⟨v9,rfl,o9,g9⟩;have L:=Lw.mk (L.b.grown g9 L.b.size (λk e=>(Xr O5 k e).1));have O9:cV V9 Wd v9 (qi s1.es e):=by unfold qi;rw[<-ID.p1];exact o9
  obtain⟨A9,c9,Ea⟩:=cV.form O9;rw[<-Hn9.o] at Ea;subst Ea;clear o9 g9 O5 X8 HI9;go_simp;refine hK.out _ _ (λ_=>L.b) ?_;clear hK K;try simp only[Act.put,Qb,Qc,Qd]
  refine ju 16 rfl KJ λK hK=> ?_;have HA:=HAh.o V9 (am A9 n9 c9) L.b O9;go_simp;go_at_call 87;refine Qaw HA ?_;rintro e V16 ⟨v16,rfl,abl,b16⟩;obtain⟨avV,avF,amP,rfl,q1,q2,q3,q4⟩:=abl.ex;obtain⟨A16,c16,rfl,-,-⟩:=q1.form;obtain⟨aob,anx,rfl⟩:=q3.s.form;have C16:=abl.apart (T:=λx=>S x\/x=V16.heap.size) (λx hx=>hx.imp id (λh=>by rw[h];exact go));have SZ:=aa (Qh AK.o.size (Qh L.b.size b16.size));clear q1 q2 q3 q4 abl HA;have L:=L.on b16;have O9:=O9.on b16;go_simp;refine hK.out _ _ (λ_=>L.b) ?_;clear hK K;try simp only[Act.put,Qb,Qc,Qd]
  refine ju 17 rfl KJ λK hK=> ?_;obtain⟨V17,agZ,X17,b17⟩:=nW V16 [ac cv.ax,ac cv.depth,am A16 cv.blocks.length c16,am aob amP.length anx] 72;have L:=L.on b17;have O9:=O9.on b17;have C16:=C16.on b17;go_simp;rw[<-agZ];clear agZ;refine hK.out _ _ (λ_=>L.b) ?_;clear hK K;try simp only[Act.put,Qb,Qc,Qd]
  refine ju 18 rfl KJ λK hK=> ?_;go_simp;refine hK.out _ _ (λ_=>L.b) ?_;clear hK K;try simp only[Act.put,Qb,Qc,Qd]
  refine bD KJ ?_ _;go_wp2_with fail;try rw[Qv]
  go_ret;exact⟨_,rfl,nG X17 C16 SZ.o,Pd AK.o L.b⟩
def Ik(w:Wo)(S:FV)(hS:∀x,S x->x<w)(c:ak)(hc:ur c)(v:Va)(h:jw w S v c)(cC:c.blocks.length<=4096)(e:aD)(he:tw e)(MF:eR e)(pj:¬c.first.length<9)(EC:rH c e=true):
  Calls prog 29 #[v,jz e] w λr w' =>∃v',r= .returned v'/\eN w' S w v' [bZ c.ax c.depth [e] c.blocks c.ah]/\ci w w' :=by
 have⟨cv,ZZ⟩:=eX (bZ c.ax c.depth [e] c.blocks c.ah);rw[<-ZZ];have Hps:=aa h;change Af _ at ZZ EC;obtain⟨s1,r1,b1,br,k1,k2,k3,k4,k5⟩:=hc.cons;obtain⟨bv,sv,ps,rfl,hb,pq,hs,fc⟩:=h.ex;obtain⟨Ab,fQ,rfl,-,-⟩:=hb.form;obtain⟨As,gq,rfl⟩:=hs.s.form;have dh:ps.length=c.ah.length:=zdQ;have jX:c.blocks.length=ps.length:=dh▸hc.ok.len;have⟨n,hn⟩:=eX ps.length;rw[jX,<-hn] at hb pq cC;rw[jX,<-hn];rw[<-hn] at hs;cases ps with
 |nil=>rw[k1] at dh;simp at dh
 |cons p0 pr=>
 obtain⟨bb,ob,ug,oQ,-,-,bO,-⟩:=hb.cells zdw;obtain rfl:Ab=some (an bb ob):=zdH;obtain⟨bs,os,ks,Na,iV,-,-,s2⟩:=hs.s.cells (k:=0) (p:=p0) rfl;obtain rfl:As=some (an bs os):=zdI;rw[Xz,XC] at s2;have tA:p0.1=s1:=zam;have gY:pr.map Prod.fst=r1:=zan;have eE:=hs.s.es p0 (Qm ..);rw[tA] at eE;obtain⟨Ae,ce,hU,-,-⟩:=eE.1.1.form;have⟨ne,bT⟩:=eX s1.es.length;rw[<-bT] at hU;have JN:=hs.e p0 (Qm ..);rw[hU] at s2 eE JN;have⟨ax,eo⟩:=eX c.ax;have⟨dep,eK⟩:=eX c.depth;have⟨er,pU⟩:=eX e.print;have⟨ek,mF⟩:=eX e.block;rw[jz,<-eo,<-eK,<-pU,<-mF];have ei:=hn;have gZ:n=br.length+1:=zdu;have AQ:=fZ (hc.ok.right s1 (k1▸(Qm ..)));obtain⟨W0,aY,X0,B0⟩:=nW w [ac ax,ac dep,el bb ob n fQ,el bs os n gq] 72;have lz:W0.heap.size=w.heap.size+1:=zbf;obtain⟨W1,aW,E1,B1⟩:=nW W0 [ip er,gc ek] 29;have fI:=Pd B0 B1;have X1:=X0.on B1;have⟨eb,mR⟩:=eX (w.heap.size+1);rw[lz,<-mR] at E1;have HW:=iJ aY.symm aW.symm mR.symm;obtain⟨tl,Yb,wP,EH,wN⟩:=ul X1 E1 fI ((fI.cell (XX s2)).trans s2) (gA eE.1 fI);have wE:=iJ (dU hb fI) pq (hs.on fI);have HI:Af ((∀x,S x->x<w)/\ur c/\n<=4096/\(ax=c.ax/\dep=c.depth/\er=e.print/\ek=e.block)/\tw e/\eR e/\c.ah=s1::r1/\c.blocks=b1::br/\c.first=s1.es/\p0.1=s1/\pr.map Prod.fst=r1/\n=pr.length+1/\n=br.length+1/\ne=s1.es.length/\s1.es.length<=9/\dV s1.es=true/\Ap S (am Ae ne ce)):=
  ⟨hS,hc,cC,⟨eo,eK,pU,mF⟩,he,MF,k1,k2,k5,tA,gY,ei,gZ,bT,AQ.1,AQ.2.1,JN⟩
 have N5:¬(ne:Int)<9:=zcq;have jU:(0:Int)<n:=ei▸(Xi.2 (Qfz _));have s2' :=EH.o;obtain⟨x0,x1,x2,x3⟩:=mm X1;obtain⟨e0,e1⟩:=gh E1;have EI:=iJ fc dh jX;clear pj;clear hS hc h cC he MF k1 k2 k3 k4 k5 hb pq hs fc dh jX hn oQ bO Na iV s2 tA gY eE hU bT JN eo eK pU mF ei gZ AQ aY X0 B0 lz aW E1 B1 fI X1 mR;go_in;go_upto_region 1 with fail;rw[HW.p1,HW.p2];try rw[HW.q2]
 have JX:Af (Calls prog 90 #[.agg #[ac ax,ac dep,el bb ob n fQ,el bs os n gq],ip er] W1 (iF true λw' =>ci W1 w')):=by have h1:=wa W1 c (.agg #[ac ax,ac dep,el bb ob n fQ,el bs os n gq]) ⟨_,_,p0::pr,zbh,wE.p1,wE.q2.s,EI.p1⟩ zbb er (HI.o.2.2.2.1.2.2.1▸HI.o.2.2.2.2.2.1.1) (λa ha=>(HI.p2.ent a ha).u);have h2:(c.all.all λa=>bz a==(er/2^56).toNat)=true:=HI.o.2.2.2.1.2.2.1▸EC.o;rw[h2] at h1;exact h1
 have HAh:Af (∀W,ci W1 W->Calls prog 87 #[ac ax,ac dep,el W 0 1 1,el bb ob n fQ,el bs os n gq] (qr W #[ip er,gc ek] 29) λr w' =>∃v,r= .returned v/\jw w' S v cv/\ci W w'):=λW hW=>by
  have b1:=aF W (.cells #[ip er,gc ek] 29);have X:=ar W [ip er,gc ek] 29;have hw:=Pd hW b1;have TM :∀x,S x->x<W:=λx hx=>Qn (HI.p1 x hx) (Qh wP.o.size hW.size);have hE:Es (qr W #[ip er,gc ek] 29) (qr W #[ip er,gc ek] 29).heap.size (el W 0 1 1) [e]:=by refine⟨?_,λx hx=>by rw[Qx] at hx;subst hx;exact HI.p6⟩;have h2:([e]:List aD).flatMap dC=[ip er,gc ek]:=(by rw[HI.o.2.2.2.1.2.2.1,HI.o.2.2.2.1.2.2.2];rfl);rw[h2];exact X.sl (o:=0) (n:=1) (sz:=2) (c:=1) Sv go AN
  have h1:=pR _ S (λx hx=>Qn (TM x hx) b1.size) ax dep [e] c.blocks (p0::pr) _ _ _ (HI.o.2.2.2.1.2.1▸HI.p2.ok.d8) hE (jD (λh=>XI _ (TM _ h))) (show 1<=9 by decide)
   (dU wE.p1 hw) wE.p2 (wE.q2.on hw) EI.q2 zbj HI.p2.Ej
  rw[EI.p1,HI.o.2.2.2.1.1,HI.o.2.2.2.1.2.1,<-ZZ.o] at h1;rw[HI.o.2.2.2.1.1,HI.o.2.2.2.1.2.1];exact h1.mono λr w' ⟨v,q1,q2,q3⟩=>⟨v,q1,q2,Pd b1 q3⟩
 go_upto_region 6 with(go_at_call 90;refine JX.o.mono ?_;rintro e W5 ⟨rfl,b5⟩;have B5:=aa b5;clear b5);have X5:=tl.o.on B5.o;have E5:=Yb.o.on B5.o;obtain⟨x0,x1⟩:=gh X5;obtain⟨e0,e1⟩:=gh E5;have bx:=aF W5 (.cells #[ip er,gc ek] 29);obtain⟨-,-,x2,x3⟩:=mm (X5.on bx);have an9:=aa (HAh.o W5 B5.o);clear X5 E5 bx;go_wp2_with(go_at_call 87;refine an9.o.mono ?_;rintro e W6 ⟨v6,rfl,c6,b6⟩;obtain⟨bv6,sv6,ps6,rfl,q1,q2,q3,q4⟩:=c6.ex;obtain⟨A6,d6,rfl,-,-⟩:=q1.form;obtain⟨As6,ds6,rfl⟩:=q3.s.form;have HC6:=aa (c6.apart (T:=λx=>S x\/x=W6.heap.size) (λx hx=>hx.imp id (λh=>by rw[h];exact go)));have HB6:=aa (Pd B5.o b6);clear q1 q2 q3 q4 c6 b6);try rw[Qv]
 go_ret;have b6:=aF W6 (.cells #[ac cv.ax,ac cv.depth,am A6 cv.blocks.length d6,am As6 ps6.length ds6] 72);have hB:=Pd wP.o HB6.o;exact⟨_,rfl,nG (ar W6 [ac cv.ax,ac cv.depth,am A6 cv.blocks.length d6,am As6 ps6.length ds6] _) (HC6.o.on b6) hB.size,Pd hB b6⟩
def Ij(w:Wo)(S:FV)(hS:∀x,S x->x<w.heap.size)(c:ak)(hc:ur c)(v:Va)(h:jw w S v c)(cC:c.blocks.length<=4096)(e:aD)(he:tw e)(MF:eR e)(pj:¬c.first.length<9)(EC:rH c e=false)(qc:c.depth<8)(hit:bY c.ax c.depth (bz e)=true)(k:Nat)(hk:9<=c.depth+(k+1))(ZS:k<=100)
  (IH:∀(w:Wo) (S:FV),(∀x,S x->x<w.heap.size)->∀(c:ak),ur c->∀(v:Va),jw w S v c->c.blocks.length<=4096->9<=c.depth+k->bY c.ax c.depth (bz e)=true->Calls prog 29 #[v,jz e] w λr w' =>∃v',r= .returned v'/\eN w' S w v' (cP k c e)/\ci w w'):
  Calls prog 29 #[v,jz e] w λr w' =>∃v',r= .returned v'/\eN w' S w v' (if bY (dQ c).ax (dQ c).depth (bz e) then cP k (dQ c) e++[dd c] else dQ c::cP k (dd c) e)/\ci w w' :=by
 have Hk:=kH hk ZS hit qc;have Hch:=aa h;have⟨lv,hlv⟩:=eX (dQ c);have⟨rv,ZG⟩:=eX (dd c);have⟨fr2,TF⟩:=eX (bY lv.ax lv.depth (bz e));rw[<-hlv,<-ZG,<-TF];have HLR:=iJ hlv ZG TF;clear hk ZS hit qc hlv ZG TF;change Af _ at EC IH;obtain⟨s1,r1,b1,br,k1,k2,k3,k4,k5⟩:=hc.cons;obtain⟨bv,sv,ps,rfl,hb,pq,hs,fc⟩:=h.ex;obtain⟨Ab,fQ,rfl,-,-⟩:=hb.form;obtain⟨As,gq,rfl⟩:=hs.s.form;have dh:ps.length=c.ah.length:=zdQ;have jX:c.blocks.length=ps.length:=zcP;have⟨n,hn⟩:=eX ps.length;rw[jX,<-hn] at hb pq cC;rw[jX,<-hn];rw[<-hn] at hs
 cases ps with
 |nil=>rw[k1] at dh;simp at dh
 |cons p0 pr=>
 obtain⟨bb,ob,ug,oQ,-,-,bO,-⟩:=hb.cells zdw;obtain rfl:Ab=some (an bb ob):=zdH;obtain⟨bs,os,ks,Na,iV,-,-,s2⟩:=hs.s.cells (k:=0) (p:=p0) rfl;obtain rfl:As=some (an bs os):=zdI;rw[Xz,XC] at s2;have tA:p0.1=s1:=zam;have gY:pr.map Prod.fst=r1:=zan;have eE:=hs.s.es p0 (Qm ..);rw[tA] at eE;obtain⟨Ae,ce,hU,-,-⟩:=eE.1.1.form;have⟨ne,bT⟩:=eX s1.es.length;rw[<-bT] at hU;have JN:=hs.e p0 (Qm ..);rw[hU] at s2 eE JN;have⟨ax,eo⟩:=eX c.ax;have⟨dep,eK⟩:=eX c.depth;have⟨er,pU⟩:=eX e.print;have⟨ek,mF⟩:=eX e.block;unfold jz;rw[<-eo,<-eK,<-pU,<-mF];have ei:=hn;have gZ:n=br.length+1:=zdu;have AQ:=fZ (hc.ok.right s1 (by rw[k1];exact Qm ..));obtain⟨W0,aY,X0,B0⟩:=nW w [ac ax,ac dep,el bb ob n fQ,el bs os n gq] 72;have lz:W0.heap.size=w.heap.size+1:=zbf;obtain⟨W1,aW,E1,B1⟩:=nW W0 [ip er,gc ek] 29;have fI:=Pd B0 B1;have X1:=X0.on B1;have⟨eb,mR⟩:=eX (w.heap.size+1);rw[lz,<-mR] at E1;have HW:=iJ aY.symm aW.symm mR.symm;obtain⟨tl,Yb,wP,EH,wN⟩:=ul X1 E1 fI ((fI.cell (XX s2)).trans s2) (gA eE.1 fI);have wE:=iJ (dU hb fI) pq (hs.on fI);have HI:Af ((∀x,S x->x<w.heap.size)/\ur c/\n<=4096/\(ax=c.ax/\dep=c.depth/\er=e.print/\ek=e.block)/\tw e/\eR e/\c.ah=s1::r1/\c.blocks=b1::br/\c.first=s1.es/\p0.1=s1/\pr.map Prod.fst=r1/\n=pr.length+1/\n=br.length+1/\ne=s1.es.length/\s1.es.length<=9/\dV s1.es=true/\Ap S (am Ae ne ce)):=
  ⟨hS,hc,cC,⟨eo,eK,pU,mF⟩,he,MF,k1,k2,k5,tA,gY,ei,gZ,bT,AQ.1,AQ.2.1,JN⟩
 have N5:¬(ne:Int)<9:=zcq;have jU:(0:Int)<n:=by rw[ei];exact Xi.2 (Qfz _)
 have s2' :=EH.o;obtain⟨x0,x1,x2,x3⟩:=mm X1;obtain⟨e0,e1⟩:=gh E1;have EI:=iJ fc dh jX;clear pj Hch;clear hS hc h cC he MF k1 k2 k3 k4 k5 hb pq hs fc dh jX hn oQ bO Na iV s2 tA gY eE hU bT JN eo eK pU mF ei gZ AQ aY X0 B0 lz aW E1 B1 fI X1 mR;go_in;go_upto_region 1 with fail;rw[HW.p1,HW.p2];try rw[HW.q2]
 have JX:Af (Calls prog 90 #[.agg #[ac ax,ac dep,el bb ob n fQ,el bs os n gq],ip er] W1 (iF false λw' =>ci W1 w')):=by
  have h1:=wa W1 c (.agg #[ac ax,ac dep,el bb ob n fQ,el bs os n gq]) ⟨_,_,p0::pr,zbh,wE.p1,wE.q2.s,EI.p1⟩ zbb er (by rw[HI.o.2.2.2.1.2.2.1];exact HI.o.2.2.2.2.2.1.1) (λa ha=>(HI.p2.ent a ha).u);have h2:(c.all.all λa=>bz a==(er/2^56).toNat)=false:=by rw[HI.o.2.2.2.1.2.2.1];exact EC.o
  rw[h2] at h1;exact h1
 go_upto_region 7 with(go_at_call 90;refine JX.o.mono ?_;rintro e W5 ⟨rfl,b5⟩;have B5:=aa b5;clear b5);have X5:=tl.o.on B5.o;obtain⟨x0,x1,x2,x3⟩:=mm X5;have HSp:Af (Calls prog 91 #[.agg #[ac ax,ac dep,el bb ob n fQ,el bs os n gq]] W5 λr w' =>∃v1 v2,r= .returned (.tuple #[v1,v2])/\jw w' S v1 lv/\jw w' S v2 rv/\ci W5 w'):=by rw[HLR.p1,HLR.p2];exact FA W5 S (λx hx=>Qn (HI.p1 x hx) (Qh wP.o.size B5.o.size)) c HI.p2 Hk.q3 _ ⟨_,_,p0::pr,zbh,dU wE.p1 B5.o,wE.p2,wE.q2.on B5.o,EI.p1⟩ zbj
 clear X5;go_upto_region 8 with(go_at_call 91;refine HSp.o.mono ?_;rintro e W7 ⟨v1,v2,rfl,c1,c2,b7⟩;obtain⟨bv1,sv1,Tn,rfl,q1,q2,q3,q4⟩:=c1.ex;obtain⟨A1,d1,rfl,-,-⟩:=q1.form;obtain⟨Uv,SY,rfl⟩:=q3.s.form;obtain⟨bv2,sv2,ps2,rfl,q1',q2',q3',q4'⟩:=c2.ex;obtain⟨A2,d2,rfl,-,-⟩:=q1'.form;obtain⟨As2,ds2,rfl⟩:=q3'.s.form;obtain⟨su,HC2,HB7⟩:=qC c1 c2 (Pd B5.o b7);clear c1 c2 q1 q2 q3 q4 q1' q2' q3' q4' b7);obtain⟨W8,hW8,L8,b8⟩:=nW W7 [ac lv.ax,ac lv.depth,am A1 lv.blocks.length d1,am Uv Tn.length SY] 72;have hs8:W8.heap.size=W7.heap.size+1:=by rw[hW8];simp
 obtain⟨W9,ED,R9,b9⟩:=nW W8 [ac rv.ax,ac rv.depth,am A2 rv.blocks.length d2,am As2 ps2.length ds2] 72;have b79:=Pd b8 b9;have L9:=L8.on b9;rw[hs8] at R9;rw[<-hW8,<-ED];have⟨lb,hlb⟩:=eX (W7.heap.size+0);have⟨rb,ft⟩:=eX (W7.heap.size+1);rw[XC] at hlb;rw[<-hlb] at L9;rw[<-ft] at R9;rw[<-ft,<-hlb];obtain⟨AK,NN,WV,HE9⟩:=rx (Pd wP.o (Pd HB7.o b79)) L9 R9 ((Yb.o.on HB7.o).on b79);have Ou :=aa (su.o.on b79);have Ot :=aa (HC2.o.on b79);have IE:Af (ur lv/\ur rv/\lv.depth=c.depth+1/\rv.depth=c.depth+1/\lv.blocks.length<=4096/\rv.blocks.length<=4096/\(fr2=true->bY lv.ax lv.depth (bz e)=true)/\(fr2=false->bY rv.ax rv.depth (bz e)=true)):=by
  have sm:c.blocks.length<=4096:=zbj;have hl:=uX HI.p2 Hk.q3 (ax:=c.ax) (Or.inl rfl);have hr:=uX HI.p2 Hk.q3 (ax:=c.ax+dj c) (Or.inr rfl);have h3:=Ce Hk.q3 HI.p2.ok.f256 HI.p2.ok.mod Hk.p3;rw[HLR.q2,HLR.p1,HLR.p2];unfold dQ dd;refine⟨Jb HI.p2 Hk.q3 (Or.inl rfl),Jb HI.p2 Hk.q3 (Or.inr rfl),hl.2.2,hr.2.2,Qh (Cd HI.p2 _ _) sm,Qh (Cd HI.p2 _ _) sm,λh=>h,λh=> ?_⟩;rw[hl.2.1,hl.2.2] at h;rw[hr.2.1,hr.2.2];refine h3.2.2 ?_;obtain hx|hx:=Nat.mod_two_eq_zero_or_one (bz e/2^(7 - c.depth))
  .have:=h3.1.2 hx;rw[h] at this
   cases this
  .exact hx
 have⟨nb,gZ⟩:=eX (bz e);have pU:er/2^56=(nb:Int):=by have h1:=HI.p5.u.1;rw[gZ,HI.o.2.2.2.1.2.2.1];unfold bz;exact(Xp (Qie h1 Fd)).symm
 have agm:nb<256:=by have h1:=HI.p5.u;rw[gZ];unfold bz;unfold bI at h1;omega
 have HBg:Af (∀W,Calls prog 93 #[ip er] W (iF (ac nb) λw' =>ci W w')):=λW=>by have h1:=lr W er (by rw[HI.o.2.2.2.1.2.2.1];exact HI.p5.u);rw[pU] at h1;exact h1.mono λr w' ⟨q1,q2⟩=>⟨q1,by rw[<-q2];exact pi⟩
 have XY:Af (∀W,Calls prog 92 #[.agg #[ac lv.ax,ac lv.depth,am A1 lv.blocks.length d1,am Uv Tn.length SY],ac nb] W (iF (.bool fr2) λw' =>ci W w')):=λW=>by have h1:=tV W lv.ax lv.depth nb IE.p1.ok.f256 IE.p1.ok.d8 agm (am A1 lv.blocks.length d1) (am Uv Tn.length SY);rw[gZ,<-HLR.q2] at h1;rw[gZ];exact h1
 clear pU gZ agm hW8 L8 b8 hs8 ED R9 b9 b79 L9 hlb ft x0 x1 x2 x3 su HC2 tl Yb HB7 B5;go_cut [69] from 65 to 69 (λv W=>v= .bool fr2/\Af (ci W9 W))
 .have tE:=below_drewN (Xj W9 W9) 1;have⟨Wd,dJ⟩:=eX W9.drew;have Hd9:Af (ci W9 Wd):=by rw[dJ];exact tE
  obtain⟨z0,z1,z2,z3⟩:=mm (NN.o.on Hd9.o);have e0:=(HE9.o.on Hd9.o).j0;have L:Lw Wd Wd:=⟨pi⟩;clear tE IH Ou Ot HSp JX wE EI IE;refine bL (λj=>[].contains j) (λW=>ci Wd W) KJ ?_;rw[<-dJ];clear dJ;refine tKz 0 65 (.agg #[ac lv.ax,ac lv.depth,am A1 lv.blocks.length d1,am Uv Tn.length SY]) pm (λW hW=>By) L.b ?_;try simp only[Act.put,Qb,Qc,Qd]
  refine tKz 1 66 eb pm (λW hW=>zM) L.b ?_;try simp only[Act.put,Qb,Qc,Qd]
  refine tKz 2 67 (ip er) pm (λW hW=>by have hx:=(hW.cell (XX e0)).trans e0;go_simp) L.b ?_;try simp only[Act.put,Qb,Qc,Qd]
  refine ju 3 rfl KJ λK hK=> ?_;go_simp;go_at_call 93;refine Qaw (HBg.o Wd) ?_;rintro e V3 ⟨rfl,b3⟩;have L:=L.on b3;go_simp;refine hK.out _ _ (λ_=>L.b) ?_;clear hK K;try simp only[Act.put,Qb,Qc,Qd]
  refine ju 4 rfl KJ λK hK=> ?_;go_simp;go_at_call 92;refine Qaw (XY.o V3) ?_;rintro e V4 ⟨rfl,b4⟩;have L:=L.on b4;go_simp;refine hK.out _ _ (λ_=>L.b) ?_;clear hK K;try simp only[Act.put,Qb,Qc,Qd]
  refine bD KJ ?_ _;go_wp2_with fail;go_meet;exact⟨rfl,Pd Hd9.o L.b⟩
 .obtain⟨rfl,oU⟩:=hcut;have abE:Af (∀(w:Wo) (S:FV),(∀x,S x->x<w.heap.size)->∀(c:ak),ur c->∀(v:Va),jw w S v c->c.blocks.length<=4096->9<=c.depth+k->bY c.ax c.depth (bz e)=true->Calls prog 29 #[v,.agg #[ip er,gc ek]] w λr w' =>∃v',r= .returned v'/\eN w' S w v' (cP k c e)/\ci w w'):=by have h1:=IH.o;exact zfn
  have Ee:9<=c.depth+1+k:=by have:=Hk.p1;omega
  have HK9:Af (9<=lv.depth+k/\9<=rv.depth+k):=⟨by rw[IE.p3];exact Ee,by rw[IE.p4];exact Ee⟩;clear Ee IH HSp JX HBg XY;have⟨avW,YJ⟩:=eX fr2;have Hb:=aa YJ;clear YJ;have hs9:∀x,S x->x<W9.heap.size:=λx hx=>Qn (HI.p1 x hx) AK.o.size;have HS9:=aa hs9;clear hs9;have tE:=oU.o.drew
  cases fr2 with
  |true=>
   go_upto_region 9 with fail;have⟨Wd,dJ⟩:=eX wc.drew;rw[<-dJ] at tE;have Hd9:=aa tE;obtain⟨z0,z1,z2,z3⟩:=mm (NN.o.on tE);obtain⟨y0,y1,y2,y3⟩:=mm (WV.o.on tE);obtain⟨e0,e1⟩:=gh (HE9.o.on tE);have HSd:Af (∀x,S x->x<Wd.heap.size):=λx hx=>Qn (HS9.o x hx) tE.size;have CL:=(Ou.o.on tE).apart (λx hx=>hx);have CR:=(Ot.o.on tE).apart (λx hx=>hx);have xF:=aa (Pd AK.o tE);have L:Lw Wd Wd:=⟨pi⟩;clear tE Ou Ot;refine bL (λj=>[].contains j) (λW=>ci Wd W) KJ ?_;rw[<-dJ];clear dJ;refine tKz 0 70 (.agg #[ac lv.ax,ac lv.depth,am A1 lv.blocks.length d1,am Uv Tn.length SY]) pm (λW hW=>By) L.b ?_;(try simp only[Act.put,Qb,Qc,Qd]);refine tKz 1 71 (.agg #[ip er,gc ek]) pm (λW hW=>Rd) L.b ?_;(try simp only[Act.put,Qb,Qc,Qd]);refine tKz 3 73 (.agg #[ac rv.ax,ac rv.depth,am A2 rv.blocks.length d2,am As2 ps2.length ds2]) pm (λW hW=>IS) L.b ?_;(try simp only[Act.put,Qb,Qc,Qd]);refine gR [2] [4] (λa0 i j a W=>∃x72 x74,a=(a0.put (some 72) x72).put (some 74) x74/\Lw Wd W/\jw W (λx=>S x\/Wd.heap.size<=x) (.agg #[ac lv.ax,ac lv.depth,am A1 lv.blocks.length d1,am Uv Tn.length SY]) lv/\jw W (λx=>S x\/Wd.heap.size<=x) (.agg #[ac rv.ax,ac rv.depth,am A2 rv.blocks.length d2,am As2 ps2.length ds2]) rv/\(1<=i->eN W S Wd x72 (cP k lv e))/\(1<=j->∃g,x74= el g 0 1 1/\Wd.heap.size<=g/\aq W g 72 [ac rv.ax,ac rv.depth,am A2 rv.blocks.length d2,am As2 ps2.length ds2])) 2 rfl KJ ⟨_,_,Ux zac,L,CL,CR,λh=>absurd h Fd,λh=>absurd h Fd⟩ ⟨?_,trivial⟩ ⟨?_,trivial⟩ ?_;all_goals clear L CL CR
   .rintro j a W ⟨x72,x74,rfl,L,CL,CR,-,HB⟩;refine bJ rfl (λK hK=> ?_);simp only[Act.put,Qb,Qc,Qd];go_simp;go_at_call 29;refine Qaw (abE.o W S (λx hx=>Qn (HSd.o x hx) L.b.size) lv IE.p1 _ (CL.mono (λx hx=>Or.inl hx)) IE.p5 HK9.p1 (IE.p7 rfl)) ?_;rintro e V2 ⟨v2,rfl,o2,b2⟩;go_simp;exact hK.out _ _ ⟨λ_=>(L.on b2).b,_,x74,rfl,L.on b2,CL.on b2,CR.on b2,λ_=>o2.low L.b.size,λh=>(HB h).imp λg hg=>⟨hg.1,hg.2.1,hg.2.2.on b2⟩⟩
   .rintro i a W ⟨x72,x74,rfl,L,CL,CR,HA,-⟩;refine bJ rfl (λK hK=> ?_);obtain⟨V,hV,X,b⟩:=nW W [ac rv.ax,ac rv.depth,am A2 rv.blocks.length d2,am As2 ps2.length ds2] 72;simp only[Act.put,Qb,Qc,Qd];go_simp;rw[<-hV];exact hK.out _ _ ⟨λ_=>(L.on b).b,x72,_,rfl,L.on b,CL.on b,CR.on b,λh=>(HA h).on b,λ_=>⟨_,rfl,L.b.size,X⟩⟩
   .rintro a V ⟨v2,x74,rfl,L,CL,CR,HA,HB⟩
    have O2:=HA go;obtain⟨g,rfl,hg,X4⟩:=HB go;have HX:=nG (S:=nA S v2) (base:=0) X4 (CR.mono (λx hx=>by
     rcases hx with(hx|hx)|hx
     .exact Or.inl hx
     .exact Or.inr (O2.own x hx).1
     .exact Or.inr (by rw[hx];exact hg))) lm
    obtain⟨v5,V5,NW,O5,g5⟩:=uZ V S Wd v2 _ O2 _ 0 [rv] HX (by have:=gX k lv e;have:=Hk.p2;show _+1<=_;omega) L.b.size 35;have L:=Lw.mk (L.b.grown g5 L.b.size (λk hk=>(O2.own k hk).1));clear HX HA HB;simp only[Act.put,Qb,Qc,Qd];refine ju 5 rfl KJ λK hK=> ?_;refine gM (some 75) rfl zac (ea rfl rfl NW) ?_;refine hK.out _ _ (λ_=>L.b) ?_;clear hK K;(try simp only[Act.put,Qb,Qc,Qd]);refine ju 6 rfl KJ λK hK=> ?_;go_simp;refine hK.out _ _ (λ_=>L.b) ?_;clear hK K;(try simp only[Act.put,Qb,Qc,Qd]);refine bD KJ ?_ _;go_wp2_with fail;(try rw[Qv]);exact zeT
  |false=>
   go_upto_region 10 with fail;have⟨Wd,dJ⟩:=eX wc.drew;rw[<-dJ] at tE;have Hd9:=aa tE;obtain⟨z0,z1,z2,z3⟩:=mm (NN.o.on tE);obtain⟨y0,y1,y2,y3⟩:=mm (WV.o.on tE);obtain⟨e0,e1⟩:=gh (HE9.o.on tE);have HSd:Af (∀x,S x->x<Wd.heap.size):=λx hx=>Qn (HS9.o x hx) tE.size;have CL:=(Ou.o.on tE).apart (λx hx=>hx);have CR:=(Ot.o.on tE).apart (λx hx=>hx);have xF:=aa (Pd AK.o tE);have L:Lw Wd Wd:=⟨pi⟩;clear tE Ou Ot;refine bL (λj=>[].contains j) (λW=>ci Wd W) KJ ?_;rw[<-dJ];clear dJ;refine tKz 0 76 (.agg #[ac lv.ax,ac lv.depth,am A1 lv.blocks.length d1,am Uv Tn.length SY]) pm (λW hW=>By) L.b ?_;(try simp only[Act.put,Qb,Qc,Qd]);refine tKz 2 78 (.agg #[ac rv.ax,ac rv.depth,am A2 rv.blocks.length d2,am As2 ps2.length ds2]) pm (λW hW=>IS) L.b ?_;(try simp only[Act.put,Qb,Qc,Qd]);refine tKz 3 79 (.agg #[ip er,gc ek]) pm (λW hW=>Rd) L.b ?_;(try simp only[Act.put,Qb,Qc,Qd]);refine ma (rs:=[1,4]) KJ Sv ?_;refine cT.cons rfl (λK hK=> ?_) (cT.cons rfl (λK hK=> ?_) cT.nil)
   .skip
    obtain⟨V1,hV1,X1,b1⟩:=nW Wd [ac lv.ax,ac lv.depth,am A1 lv.blocks.length d1,am Uv Tn.length SY] 72;have L:=L.on b1;have CL:=CL.on b1;have CR:=CR.on b1;go_simp;rw[<-hV1];clear hV1;refine hK.out _ _ (λ_=>L.b) ?_;clear hK K;(try simp only[Act.put,Qb,Qc,Qd]);refine ju 4 rfl KJ λK hK=> ?_;(try have xx:=aa X1.lt);have⟨Nw,hNw⟩:=eX V1.heap.size;have HNw:=aa hNw;clear hNw;go_simp;go_at_call 29;refine Qaw (abE.o V1 (λx=>S x\/(Wd.heap.size<=x/\x<Nw)) (λx hx=>zaw) rv IE.p2 _ (CR.mono (λx hx=>hx.imp id And.left)) IE.p6 HK9.q1 (IE.q7 rfl)) ?_
    rintro e V4 ⟨v4,rfl,o4,b4⟩;have O4:eN V4 (λx=>S x\/(Wd.heap.size<=x/\(x<Nw\/V4.heap.size<=x))) 0 v4 (cP k rv e):=(o4.low lm).apart (λx hx=>by
     obtain hx|⟨h1,h2|h2⟩:=hx
     .exact Or.inl (Or.inl hx)
     .exact Or.inl (Or.inr ⟨h1,h2⟩)
     .exact Or.inr h2)
    have EZ:=aa (Qh L.b.size b4.size);clear o4;have L:=L.on b4;have CL:=CL.on b4;have CR:=CR.on b4;have X1:=X1.on b4;go_simp;refine hK.out _ _ (λ_=>L.b) ?_;clear hK K;(try simp only[Act.put,Qb,Qc,Qd]);refine ju 5 rfl KJ λK hK=> ?_;have HX:=nG (S:=S) (base:=Wd.heap.size) X1 (CL.mono (λx hx=>hx.imp id (λh=>zdg))) (by first|exact go|exact EZ.o)
    have HY:eN V4 (nA S (el Wd 0 1 1)) 0 v4 (cP k rv e):=O4.mono (λx hx=>by
     obtain hx|hx:=hx
     .exact Or.inl hx
     .rw[<-Qr hx]
      first|exact Or.inr ⟨go,Or.inl (by rw[HNw.o];exact xx.o)⟩|exact Or.inr ⟨EZ.o,Or.inr go⟩)
    obtain⟨v5,V5,NW,O5,g5⟩:=uZ V4 S Wd (el Wd 0 1 1) _ HX _ 0 _ HY zbC L.b.size 35;have L:=Lw.mk (L.b.grown g5 L.b.size (λk hk=>(HX.own k hk).1));clear HX HY;refine gM (some 81) rfl zac (ea rfl rfl NW) ?_;refine hK.out _ _ (λ_=>L.b) ?_;clear hK K;(try simp only[Act.put,Qb,Qc,Qd]);refine ju 6 rfl KJ λK hK=> ?_;go_simp;refine hK.out _ _ (λ_=>L.b) ?_;clear hK K;(try simp only[Act.put,Qb,Qc,Qd]);refine bD KJ ?_ _;go_wp2_with fail;(try rw[Qv]);exact zeT
   .skip
    (try have xx:=aa X1.lt);have⟨Nw,hNw⟩:=eX Wd.heap.size;have HNw:=aa hNw;clear hNw;go_simp;go_at_call 29;refine Qaw (abE.o Wd (λx=>S x\/(Wd.heap.size<=x/\x<Nw)) (λx hx=>zaw) rv IE.p2 _ (CR.mono (λx hx=>hx.imp id And.left)) IE.p6 HK9.q1 (IE.q7 rfl)) ?_
    rintro e V4 ⟨v4,rfl,o4,b4⟩;have O4:eN V4 (λx=>S x\/(Wd.heap.size<=x/\(x<Nw\/V4.heap.size<=x))) 0 v4 (cP k rv e):=(o4.low lm).apart (λx hx=>by
     obtain hx|⟨h1,h2|h2⟩:=hx
     .exact Or.inl (Or.inl hx)
     .exact Or.inl (Or.inr ⟨h1,h2⟩)
     .exact Or.inr h2)
    have EZ:=aa (Qh L.b.size b4.size);clear o4;have L:=L.on b4;have CL:=CL.on b4;have CR:=CR.on b4;go_simp;refine hK.out _ _ (λ_=>L.b) ?_;clear hK K;(try simp only[Act.put,Qb,Qc,Qd]);refine ju 1 rfl KJ λK hK=> ?_;obtain⟨V1,hV1,X1,b1⟩:=nW V4 [ac lv.ax,ac lv.depth,am A1 lv.blocks.length d1,am Uv Tn.length SY] 72;have L:=L.on b1;have CL:=CL.on b1;have CR:=CR.on b1;have O4:=O4.on b1;go_simp;rw[<-hV1];clear hV1;refine hK.out _ _ (λ_=>L.b) ?_;clear hK K;(try simp only[Act.put,Qb,Qc,Qd]);refine ju 5 rfl KJ λK hK=> ?_;have HX:=nG (S:=S) (base:=Wd.heap.size) X1 (CL.mono (λx hx=>hx.imp id (λh=>zdg))) (by first|exact go|exact EZ.o)
    have HY:eN V1 (nA S (el V4 0 1 1)) 0 v4 (cP k rv e):=O4.mono (λx hx=>by
     obtain hx|hx:=hx
     .exact Or.inl hx
     .rw[<-Qr hx]
      first|exact Or.inr ⟨go,Or.inl (by rw[HNw.o];exact xx.o)⟩|exact Or.inr ⟨EZ.o,Or.inr go⟩)
    obtain⟨v5,V5,NW,O5,g5⟩:=uZ V1 S Wd (el V4 0 1 1) _ HX _ 0 _ HY zbC L.b.size 35;have L:=Lw.mk (L.b.grown g5 L.b.size (λk hk=>(HX.own k hk).1));clear HX HY;refine gM (some 81) rfl zac (ea rfl rfl NW) ?_;refine hK.out _ _ (λ_=>L.b) ?_;clear hK K;(try simp only[Act.put,Qb,Qc,Qd]);refine ju 6 rfl KJ λK hK=> ?_;go_simp;refine hK.out _ _ (λ_=>L.b) ?_;clear hK K;(try simp only[Act.put,Qb,Qc,Qd]);refine bD KJ ?_ _;go_wp2_with fail;(try rw[Qv]);exact zeT
def Ii(e:aD)(he:tw e)(MF:eR e):∀(k:Nat),k<=100->∀(w:Wo) (S:FV),(∀x,S x->x<w)->∀(c:ak),ur c->∀(v:Va),jw w S v c->c.blocks.length<=4096->9<=c.depth+k->bY c.ax c.depth (bz e)=true->
  Calls prog 29 #[v,jz e] w λr w' =>∃v',r= .returned v'/\eN w' S w v' (cP k c e)/\ci w w' :=by
 intro k;induction k with
 |zero=>intro _ w S hS c hc v h cC h9 hit;exact absurd hc.ok.d8 Mx
 |succ k ih=>
  intro hk w S hS c hc v h cC h9 hit;rw[cP];by_cases h1:c.first.length<9
  .rw[Xo h1];exact Il w S hS c hc v h cC e he MF h1
  .rw[Xd h1];cases h2:rH c e with
   |true=>
    rw[Xo rfl];exact Ik w S hS c hc v h cC e he MF h1 h2
   |false=>
    rw[Xd Sv];have qc:=Qdd λhd=>(by rw[xu hc hd hit] at h2;cases h2);exact Ij w S hS c hc v h cC e he MF h1 h2 qc hit k h9 Mx (λw S hS c hc v h hm h9 hi=>ih Mx w S hS c hc v h hm h9 hi)
def YM(w:Wo)(x y:aD):(Op.equalIn 10000 29 (.agg #[ip x.print,gc x.block]) (.agg #[ip y.print,gc y.block])).run prog w= .ok (decide (x=y)) w:=by
 have f0:∀d,(Op.equalIn (d+1) 26 (ip x.print) (ip y.print)).run prog w= .ok (x.print==y.print) w:=λd=>Qfe w d _ .u64 .u64 _ _ underlying26;have f1:∀d,(Op.equalIn (d+1) 27 (gc x.block) (gc y.block)).run prog w= .ok (x.block==y.block) w:=λd=>Qfe w d _ .u32 .u32 _ _ underlying27;have p0:∀s:aD,(part 26 #[ip s.print,gc s.block] 0).run prog w= .ok (ip s.print) w:=λs=>by have h2:(isAgg 26).run prog w= .ok false w:=KJ;exact zeL
 have p1:∀s:aD,(part 27 #[ip s.print,gc s.block] 1).run prog w= .ok (gc s.block) w:=λs=>by have h2:(isAgg 27).run prog w= .ok false w:=KJ;exact zeL
 have hu:prog.underlying 29=some (.struct (prog.fieldsOf 29)):=KJ;have hp:prog.stoodInHeld 29=false:=KJ
 rw[run_equalIn_struct w 9999 _ _ _ hu hp];have e2:∀xs ys,Op.eqFields 9999 xs ys (prog.fieldsOf 29).toList=(do
   let a <-part 26 xs 0
   let b <-part 26 ys 0
   let r <-Op.equalIn 9999 26 a b
   if(!r)=true then pure false else do
   let a <-part 27 xs 1
   let b <-part 27 ys 1
   let r <-Op.equalIn 9999 27 a b
   if(!r)=true then pure false else pure true):=λxs ys=>KJ
 rw[e2];simp only[Qaz,p0,p1,XH,f0 9998,f1 9998,Sem.run_ite,Qcc];have key:decide (x=y)=((x.print==y.print)&&(x.block==y.block)):=by
  rw[XD];simp only[XS,XR,Qbq];constructor
  .rintro rfl;exact⟨rfl,rfl⟩
  .rintro⟨h1,h2⟩;cases x;cases y;simp_all
 rw[key];cases(x.print==y.print)<;>cases(x.block==y.block)<;>simp
def Gq(w:Wo)(v:Va)(es:List aD)(h:Es w w v es)(hl:es.length<=100000)(e:aD):
  Calls prog 75 #[v,jz e] w λr w' =>(∃i:Int,r= .returned (ac i)/\decide (0<=i)=decide (e∈es))/\ci w w' :=by
 obtain⟨A,c,rfl,-,-⟩:=h.1.form;have⟨n,hn⟩:=eX es.length;have⟨er,pU⟩:=eX e.print;have⟨ek,mF⟩:=eX e.block;obtain⟨W0,aY,X0,B0⟩:=nW w [ip er,gc ek] 29;have H:=aa (gA h B0);have HX0:=aa X0;have mV:=aa B0;have fD:=aa aY.symm;have Hn:=kH hn (by omega:n<=100000) pU mF;unfold jz;rw[<-hn,<-pU,<-mF];clear h hl hn aY X0 B0 pU mF;go_in;go_upto_region 1 with fail;rw[fD.o];go_wp2_with fail;go_loopw [8] (λiv wr=>∃k:Nat,iv= ac k/\Af (k<=n/\e∉es.take k/\ci W0 wr)) (λiv _=>n - (intOf iv).toNat)
 .exact⟨0,rfl,⟨lm,λhe=>zbs,pi⟩⟩
 .obtain⟨k,rfl,HR⟩:=hrel;by_cases hk:k<n
  .have bQ:k<es.length:=(by rw[<-Hn.p1];exact hk);obtain⟨b,o,c',hv,-,-,bO,aH⟩:=H.o.cells (QO lm bQ);obtain rfl:A=some (an b o):=No;obtain⟨q0,q1⟩:=aH k bQ;have⟨x,hx⟩:=eX (es[k]);have oP:es[k]? =some x:=(by rw[hx];exact Qf bQ);rw[<-hx] at q0 q1;have z0:=(HR.q2.cell (p:=an b (o+k*2)) bO).trans q0;have z1:=(HR.q2.cell (p:=an b (o+k*2+1)) bO).trans q1;obtain⟨e0,e1⟩:=gh (HX0.o.on HR.q2);have⟨pr,gY⟩:=eX x.print;have⟨bk,ej⟩:=eX x.block;rw[<-gY] at z0;rw[<-ej] at z1;have cU:=aa HR.o;have HX:=kH oP hk gY ej;obtain⟨u1,u2,u3⟩:=bR hk Hn.p2 Fd;have Hu:=aa u1;clear hv bO aH q0 q1 hx oP gY ej HR hk bQ u1;have⟨R,hR⟩:=eX (decide (e=x));have hq:∀W,(binOp .eql 29 (.agg #[ip er,gc ek]) (.agg #[ip pr,gc bk])).run prog W= .ok (.bool R) W:=λW=>(by have h1:=YM W e x;rw[<-Hn.p3,<-Hn.q3,<-HX.p3,<-HX.q3,<-hR] at h1;rw[run_eql_struct,h1];simp);have Wv:prog.eqGuardType prog.depth 29=false:=KJ;have fF:=aa hR;clear hR;go_upto_region 4 with fail;go_quiet (fail);have HD:Af (∀q,ci W0 (wr.drewN q)):=λq=>Pd cU.q2 (below_drewN (Xj wr wr) q);clear hq Wv;cases R
   .go_wp2_with fail;refine⟨⟨k+1,yL,HX.p2,λhe=> ?_,HD.o _⟩,LT⟩;rw[aA es k x HX.p1] at he;obtain he|he:=Qz.1 he
    .exact cU.p2 he
    .rw[Qx] at he;have:=fF.o;rw[Xa he] at this;cases this
   .have HT:Af (decide ((0:Int)<=k)=decide (e∈es)):=(by show _=_;have h1:=XQ fF.o.symm;rw[Xa (Xh k),Xa (by rw[h1];exact Qi HX.p1)]);go_wp2_with fail;(all_goals(try rw[Qv]));(all_goals go_ret);all_goals exact⟨⟨k,rfl,HT.o⟩,Pd mV.o (HD.o _)⟩
  .have cH:=QE HR.p1 (QC hk);have bm:=HR.p2;rw[Qj zaQ] at bm;have HA:=aa bm;have HL:=aa HR.q2;subst cH;clear HR hk bm;go_wp2_with fail;(try rw[Qv]);go_ret;exact⟨⟨-1,rfl,by rw[Xe HA.o];rfl⟩,Pd mV.o HL.o⟩
def xl(w:Wo)(v:Va)(es:List aD)(h:Es w w v es)(hl:es.length<=100000)(e:aD):
  Calls prog 27 #[v,jz e] w (iF (.bool (decide (e∈es))) λw' =>ci w w') :=by
 have⟨R,hR⟩:=eX (decide (e∈es));obtain⟨A,c,rfl,-,-⟩:=h.1.form;have⟨n,hn⟩:=eX es.length;have⟨er,pU⟩:=eX e.print;have⟨ek,mF⟩:=eX e.block;obtain⟨W0,aY,X0,B0⟩:=nW w [ip er,gc ek] 29;have HI:=Gq W0 _ es (gA h B0) hl e;unfold jz at HI|-;rw[<-hR,<-hn,<-pU,<-mF] at HI;rw[<-hR,<-hn,<-pU,<-mF];obtain⟨HI,mV,fD⟩:=qC HI B0 aY.symm;obtain⟨e0,e1⟩:=gh X0;clear h hl hn aY X0 B0 pU mF hR;go_in;go_upto_region 1 with fail;rw[fD.o];go_wp2_with(go_at_call 75;refine HI.o.mono ?_;rintro e W2 ⟨⟨i,rfl,hi⟩,b2⟩;have B2:=aa b2;clear b2);exact zfg
def RN(w:Wo)(s:ay)(ev:Va)(h:Es w w ev s.es)(hl:s.es.length<=100000)(e:aD)(eb:Nat)(he:aq w eb 29 [ip e.print,gc e.block]):
  Calls prog 26 #[.agg #[io s.depth,gc s.next,ev],eb] w (iF (.bool (decide (e∈s.es))) λw' =>ci w w') :=by
 have⟨R,hR⟩:=eX (decide (e∈s.es));obtain⟨W0,aY,X0,B0⟩:=nW w [io s.depth,gc s.next,ev] 79;have HC:=xl W0 ev s.es (gA h B0) hl e;unfold jz at HC;obtain⟨A,c,rfl,-,-⟩:=h.1.form;have⟨n,hn⟩:=eX s.es.length;have⟨er,pU⟩:=eX e.print;have⟨ek,mF⟩:=eX e.block;have⟨d,hd⟩:=eX s.depth;have⟨nx,fu⟩:=eX s.next;rw[<-hR,<-hn,<-pU,<-mF] at HC;rw[<-hR,<-hn,<-hd,<-fu];rw[<-hn,<-hd,<-fu] at X0 aY;rw[<-pU,<-mF] at he;have HC:=aa HC;have x2:=X0.j2;obtain⟨e0,e1⟩:=gh (he.on B0);have fD:=aa aY.symm;have mV:=aa B0;clear h hl he hR aY X0 B0 hn hd fu pU mF;go_in;go_upto_region 1 with fail;rw[fD.o];go_wp2_with(go_at_call 27;refine Pe HC.o λW2 B2=> ?_);exact zfg
def BM(eb:Nat):Va:= .func (.func 26) #[] #[eb]
def DI(w:Wo)(v:Va)(ps:List (ay×Va))(h:mP w w v ps)(hl:ps.length<=100000)(e0:aD)(eb:Nat)(ho:aq w eb 29 [ip e0.print,gc e0.block]):
  Calls prog 74 #[v,BM eb] w λr w' =>(∃i:Int,r= .returned (ac i)/\decide (0<=i)=ps.any λp=>decide (e0∈p.1.es))/\ci w w' :=by
 obtain⟨A,c,rfl⟩:=h.form;have⟨n,hn⟩:=eX ps.length;have⟨T,hT⟩:=eX (ps.any λp=>decide (e0∈p.1.es));rw[<-hT];have H:=aa h;have HO:=aa ho;have Hn:=iJ hn (by omega:n<=100000) hT;rw[<-hn];unfold BM;clear h hl hn ho hT;go_in;go_wp2_with fail;go_loopw [8] (λiv wr=>∃k:Nat,iv= ac k/\Af (k<=n/\(∀p∈ps.take k,decide (e0∈p.1.es)=false)/\ci w wr)) (λiv _=>n - (intOf iv).toNat)
 .exact zfx
 .obtain⟨k,rfl,HR⟩:=hrel;by_cases hk:k<n
  .obtain⟨p,hp⟩:∃p,ps[k]? =some p:=⟨_,Qf (by rw[<-Hn.p1];exact hk)⟩;have hS:=H.o.below HR.q2;obtain⟨b,o,c',hv,bO,z0,z1,z2⟩:=hS.cells hp;obtain rfl:A=some (an b o):=(by injection hv);have eE:=hS.es p (Qi hp);have AZ:=RN wr p.1 p.2 (eE.1.more HR.q2.size) (Qh eE.2.2.2 Fd) e0 eb (HO.o.on HR.q2);have⟨R,hR⟩:=eX (decide (e0∈p.1.es));rw[<-hR] at AZ;obtain⟨Ae,ce,hU,-,-⟩:=eE.1.1.form;have⟨L,hL⟩:=eX p.1.es.length;rw[<-hL] at hU;rw[hU] at z2 AZ;have⟨d,hd⟩:=eX p.1.depth;have⟨nx,fu⟩:=eX p.1.next;rw[<-hd] at z0 AZ;rw[<-fu] at z1 AZ;have WY:=aa AZ;have cU:=aa HR.o;have HX:=iJ hp hR hk;obtain⟨u1,u2,u3⟩:=bR hk Hn.p2 Fd;have Hu:=aa u1;clear hv bO hS hp eE AZ hR hU hL hd fu HR hk u1;cases R
   .go_wp2_with(go_at_call 26;refine WY.o.mono ?_;rintro e W2 ⟨rfl,b2⟩;have B2:=aa b2;clear b2);refine⟨⟨k+1,yL,⟨HX.q2,λq hq=> ?_,Pd cU.q2 B2.o⟩⟩,So⟩;rw[aA ps k p HX.p1] at hq;obtain hq|hq:=Qz.1 hq
    .exact cU.p2 q hq
    .rw[Qx] at hq;rw[hq];exact HX.p2.symm
   .have HTt:Af (decide ((0:Int)<=k)=T):=(by show _=_;rw[Hn.q2,Xa (Xh k)];symm;exact Xb.2 ⟨p,Qi HX.p1,HX.p2.symm⟩);go_wp2_with(go_at_call 26;refine WY.o.mono ?_;rintro e W2 ⟨rfl,b2⟩;have B2:=aa b2;clear b2);(all_goals(try rw[Qv]));(all_goals go_ret);all_goals exact⟨⟨k,rfl,HTt.o⟩,Pd cU.q2 B2.o⟩
  .have cH:=QE HR.p1 (QC hk);have bm:=HR.p2;rw[Qj zaQ] at bm;have HTf:Af (decide ((0:Int)<= -1)=T):=(by show _=_;rw[Hn.q2];symm;exact zfe);have HL:=aa HR.q2;subst cH;clear HR hk bm;go_wp2_with fail;(try rw[Qv]);exact zfu
def wo(w:Wo)(v:Va)(ps:List (ay×Va))(h:mP w w v ps)(hl:ps.length<=100000)(e0:aD)(eb:Nat)(ho:aq w eb 29 [ip e0.print,gc e0.block]):
  Calls prog 25 #[v,BM eb] w (iF (.bool (ps.any λp=>decide (e0∈p.1.es))) λw' =>ci w w') :=by
 have⟨R,hR⟩:=eX (ps.any λp=>decide (e0∈p.1.es));have HI:=DI w v ps h hl e0 eb ho;rw[<-hR] at HI|-;have HI:=aa HI;obtain⟨A,c,rfl⟩:=h.form;have⟨n,hn⟩:=eX ps.length;rw[<-hn] at HI|-;unfold BM at HI|-;clear h hl hn hR ho;exact zew
def tT{w:Wo}{g:Nat}{eL:Fr}(h:dn w g eL)(hl:eL.length=128)(hb:∀x∈eL,aI x):Bs w w (el g 0 128 128) eL:=by have h1:=h.bs (o:=0) (n:=128) (c:=128) Mx go AN hb;rw[Zl,Qj Mx] at h1;exact h1
def YN:(encS ⟨0,0,[]⟩).length=128/\∀x∈encS ⟨0,0,[]⟩,aI x:=by refine⟨oq _ _ Fd,lP IN (nU ⟨0,0,[]⟩ IN lm)⟩
def Lq(w:Wo)(I:bF)(s:aX)(h:cR w I s)(hb:s.broken=false)(h0:s.root 3=0)(hr:2<=s.room)(b1 b2:Int)(s1 s2:aX)(e1:s.put (encS ⟨0,0,[]⟩)=(b1,0,s1))(e2:s1.put (encI 4 [b1])=(b2,0,s2))
  (yZ:0<=b1/\b1<65536) (sq:2<=b2/\b2<s2.t.len) (e8:s2.broken=false):
  Calls prog 16 #[I.b] w (iF (ac 0) λw' =>cR w' I (s2.cM 3 b2).2/\aG (BS I) w w') :=by
 have HM:=aa (la w I s h hb);have tI:=ot w I s h 3 Fd;rw[h0] at tI;have tI:=aa tI;have⟨rm,ZJ⟩:=eX s.room;have HRm:=ou w I s h;rw[<-ZJ] at HRm;have HRm:=aa HRm;rw[<-ZJ] at hr;have SE :¬rm<2:=Mx;have HI:=Nv h e1 e2 yZ sq e8;have w1:IntKind.u16.wrap b1=b1:=by simp only[IntKind.wrap_u16];omega
 clear h hb h0 hr ZJ e1 e2 yZ sq e8;go_in;go_upto_region 8 with(first
  |(go_at_call 23;refine PP HM.o ?_)
  |(go_at_call 55;refine PP tI.o ?_)
  |(go_at_call 6;refine PP HRm.o ?_))
 have Yb:Af (Calls prog 56 #[.agg #[io 0,gc 0,()]] w (Made w (encS ⟨0,0,[]⟩))):=by
  have h1:=CS w ⟨0,0,[]⟩ () ⟨Sl.bU (Qbn w 0 29 2),λx hx=>zdM⟩ IN zdv;exact h1.mono λe w' h2=>by
   rcases h2 with⟨-,h2⟩|⟨h2,-⟩
   .exact h2
   .exact absurd h2 Fd
 have tp:Af (∀(W:Wo) (g:Nat),ci w W->dn W g (encS ⟨0,0,[]⟩)->w<=g->Calls prog 57 #[I.b,el g 0 128 128] W (iF (.tuple #[ac b1,ac 0]) λw' =>cR w' I s1/\aG (BS I) W w')):=λW g hW ho hg=>by have h1:=yf W I s (HI.p1.on hW) _ _ (tT ho YN.1 YN.2) (jD λe=>absurd (HI.p1.lt _ e) (XV.2 hg));rw[HI.p2] at h1;exact h1
 have AJ:Af (∀(W W' :Wo) (g:Nat),cR W I s1->ci W W'->dn W' g (encI 4 [b1])->W<=g->Calls prog 57 #[I.b,el g 0 128 128] W' (iF (.tuple #[ac b2,ac 0]) λw' =>cR w' I s2/\aG (BS I) W' w')):=λW W' g hB hW ho hg=>by have JP:=lY (k:=4) (l:=[b1]) IN (show 1<=61 by decide);have h1:=yf W' I s1 (hB.on hW) _ _ (tT ho JP.1 JP.2) (jD λe=>absurd (hB.lt _ e) (XV.2 hg));rw[HI.p3] at h1;exact h1
 have HEI:Af (∀W:Wo,Calls prog 58 #[io 4,el W 0 1 1] (qr W #[pK b1] 30) (Made (qr W #[pK b1] 30) (encI 4 [b1]))):=λW=>by have X:=ar W [pK b1] 30;exact lX _ 4 (Or.inl rfl) _ [b1] (X.sl (o:=0) (n:=1) (sz:=1) (c:=1) Sv go AN) (show 1<=61 by decide) (λx hx=>by rw[Qx] at hx;rw[hx];exact HI.p4)
 have HSR:Af (∀W:Wo,cR W I s2->Calls prog 59 #[I.b,ac 3,ac b2] W (iF (ac 0) λw' =>cR w' I (s2.cM 3 b2).2/\aG (BS I) W w')):=λW hW=>zU W I s2 hW HI.q5 3 Fd Fd b2 (Or.inr HI.p5);clear HM tI HRm SE;go_upto_region 9 with(go_at_call 56;refine Yb.o.mono ?_;rintro e W1 ⟨g1,SN,rfl,o1,c1⟩;obtain⟨HG1,O1,C1⟩:=qC SN o1 c1;clear SN o1 c1);go_upto_region 10 with(go_at_call 57;refine rY (tp.o W1 g1 C1.o O1.o HG1.o) λW2 h2 c2=> ?_;have H2:=aa h2;have C2:=aa ((aG.aZ C1.o).trans c2);clear h2 c2);go_upto_region 11 with(go_at_call 58;refine(HEI.o W2).mono ?_;rintro e W3 ⟨g3,qa,rfl,o3,c3⟩;obtain⟨HG3,O3,C3⟩:=qC (Qh (aF W2 _).size qa) o3 (Pd (aF W2 _) c3);clear qa o3 c3);go_upto_region 12 with(go_at_call 57;refine rY (AJ.o W2 W3 g3 H2.o C3.o O3.o HG3.o) λW4 h4 c4=> ?_;have H4:=aa h4;have C4:=aa ((C2.o.trans (aG.aZ C3.o)).trans c4);clear h4 c4);go_wp2_with(go_at_call 59;refine rY (HSR.o W4 H4.o) λW5 h5 c5=> ?_;have H5:=aa h5;have C5:=aa (C4.o.trans c5);clear h5 c5);try rw[Qv]
 go_ret;exact⟨rfl,H5.o,C5.o⟩
def uT{α:Type}{l m:List α}{k:Nat}(h:l.take k=m.take k){x y:α}(hx:l[k]? =some x)(hy:m[k]? =some y):(l.take (k+1)=m.take (k+1))↔x=y:=by
 rw[aA l k x hx,aA m k y hy,h];constructor
 .intro h1;have:=List.append_cancel_left h1;injection this
 .rintro rfl;rfl
def GI(w:Wo)(v u:Va)(es fs:List aD)(h:Es w w v es)(h' :Es w w u fs)(hl:es.length<=100000):
  Calls prog 219 #[v,u] w (iF (.bool (decide (es=fs))) λw' =>ci w w') :=by
 obtain⟨A,c,rfl,-,-⟩:=h.1.form;obtain⟨A',d,rfl,-,-⟩:=h'.1.form;have⟨n,hn⟩:=eX es.length;have⟨n',sf⟩:=eX fs.length;rw[<-hn,<-sf];by_cases jX:n=n'
 .subst jX;have H:=aa h;have H' :=aa h';have Hn:=iJ hn sf (by omega:n<=100000);clear h h' hl hn sf;go_in;go_wp2;go_loopw [13] (λiv wr=>∃k:Nat,iv= ac k/\Af (k<=n/\es.take k=fs.take k/\ci w wr)) (λiv _=>n - (intOf iv).toNat)
  .exact zgb
  .obtain⟨k,rfl,HR⟩:=hrel;by_cases hk:k<n
   .have bQ:k<es.length:=(by rw[<-Hn.p1];exact hk);have zk :k<fs.length:=Hn.p2▸hk;obtain⟨b,o,c',hv,-,-,bO,aH⟩:=H.o.cells (QO lm bQ);obtain rfl:A=some (an b o):=No;obtain⟨b',o',d',mQ,-,-,tu,uR⟩:=H'.o.cells (QO lm zk);obtain rfl:A' =some (an b' o'):=zcr;obtain⟨q0,q1⟩:=aH k bQ;obtain⟨p0,p1⟩:=uR k zk;have⟨x,hx⟩:=eX (es[k]);have⟨y,hy⟩:=eX (fs[k]);have oP:es[k]? =some x:=hx▸(Qf bQ);have Sz:fs[k]? =some y:=hy▸(Qf zk);rw[<-hx] at q0 q1;rw[<-hy] at p0 p1;have z0:=(HR.q2.cell (p:=an b (o+k*2)) bO).trans q0;have z1:=(HR.q2.cell (p:=an b (o+k*2+1)) bO).trans q1;have y0:=(HR.q2.cell (p:=an b' (o' +k*2)) tu).trans p0;have y1:=(HR.q2.cell (p:=an b' (o' +k*2+1)) tu).trans p1;have⟨pr,gY⟩:=eX x.print;have⟨bk,ej⟩:=eX x.block;have⟨pr',aaX⟩:=eX y.print;have⟨bk',abe⟩:=eX y.block;rw[<-gY] at z0;rw[<-ej] at z1;rw[<-aaX] at y0;rw[<-abe] at y1;have⟨R,hR⟩:=eX (decide (x=y));have hq:∀W,(binOp .neq 29 (.agg #[ip pr,gc bk]) (.agg #[ip pr',gc bk'])).run prog W= .ok (.bool (!R)) W:=λW=>(by have h1:=YM W x y;rw[<-gY,<-ej,<-aaX,<-abe,<-hR] at h1;rw[Qgp,h1];simp);have Wv:prog.eqGuardType prog.depth 29=false:=KJ;have cU:=aa HR.o;have HX:=kH oP Sz hk hR;obtain⟨u1,u2,u3⟩:=bR hk Hn.q2 Fd;have Hu:=aa u1;clear hv bO aH q0 q1 hx oP gY ej HR hk bQ u1 mQ tu uR p0 p1 hy Sz aaX abe zk hR;go_upto_region 6 with fail;go_quiet (fail);have HD:Af (∀q,ci w (wr.drewN q)):=λq=>Pd cU.q2 (below_drewN (Xj wr wr) q);clear hq Wv;cases R
    .have HT:Af (decide (es=fs)=false):=(by refine Xe λhe=> ?_;have h1:=Qbo HX.q3.symm;have h2:=HX.p1;rw[he,HX.p2] at h2;exact h1 (Qr h2).symm);go_wp2;(all_goals(try rw[Qv]));(all_goals go_ret);all_goals exact⟨IT,HD.o _⟩
    .go_wp2;refine⟨⟨k+1,yL,HX.p3,(uT cU.p2 HX.p1 HX.p2).2 (XQ HX.q3.symm),HD.o _⟩,zax⟩
   .have cH:=QE HR.p1 (QC hk);have HT:Af (decide (es=fs)=true):=(by have h1:=HR.p2;rw[cH,Qj (Xg Hn.p1.symm),Qj (Xg Hn.p2.symm)] at h1;exact Xa h1);have HL:=aa HR.q2;subst cH;clear HR hk;go_wp2;(try rw[Qv]);exact zfX
 .have HT:Af (decide (es=fs)=false):=Xe λhe=>jX (by rw[hn,sf,he]);have Wp:¬(n:Int)=n' :=λh=>jX (Qgv h);clear h h' hl hn sf jX;go_in;go_wp2;all_goals(try rw[Qv])
  all_goals go_ret
  all_goals exact⟨IT,pi⟩
def rI(w:Wo)(s t:ay)(v u:Va)(h:Es w w v s.es)(h' :Es w w u t.es)(hl:s.es.length<=100000):
  Calls prog 196 #[.agg #[io s.depth,gc s.next,v],.agg #[io t.depth,gc t.next,u]] w (iF (.bool (decide (s=t))) λw' =>ci w w') :=by
 obtain⟨A,c,rfl,-,-⟩:=h.1.form;obtain⟨A',d,rfl,-,-⟩:=h'.1.form;have⟨n,hn⟩:=eX s.es.length;have⟨n',sf⟩:=eX t.es.length;have⟨sd,Eb⟩:=eX s.depth;have⟨sn,Wh⟩:=eX s.next;have⟨td,htd⟩:=eX t.depth;have⟨tn,htn⟩:=eX t.next;rw[<-hn,<-sf,<-Eb,<-Wh,<-htd,<-htn];rw[<-hn] at h;rw[<-sf] at h';obtain⟨W0,aY,X0,B0⟩:=nW w [io sd,gc sn,am A n c] 79;have s0:W0.heap.size=w.heap.size+1:=zbf;obtain⟨W1,aW,Y1,B1⟩:=nW W0 [io td,gc tn,am A' n' d] 79;have fI:=Pd B0 B1;have X1:=X0.on B1;rw[s0] at Y1;have HE:=aa (GI W1 _ _ s.es t.es (gA h fI) (gA h' fI) hl);have⟨yb,Io⟩:=eX (w.heap.size+1);rw[<-Io] at Y1;have HW:=iJ aY.symm aW.symm Io.symm;obtain⟨x0,x1,x2⟩:=ra X1;obtain⟨y0,y1,y2⟩:=ra Y1;have HB:=aa fI;have⟨R,hR⟩:=eX (decide (s.es=t.es));rw[<-hR] at HE;have HT:Af (decide (s=t)=((sd==td)&&((sn==tn)&&R))):=by
  show _=_;rw[Eb,Wh,htd,htn,hR,XD];simp only[XS,XR,Qbq];constructor
  .rintro rfl;exact⟨rfl,rfl,rfl⟩
  .rintro⟨h1,h2,h3⟩;cases s;cases t;simp_all
 clear h h' hl hn sf Eb Wh htd htn aY X0 B0 s0 aW Y1 B1 fI X1 Io hR;go_in;go_upto_region 1 with fail;rw[HW.p1,HW.p2];try rw[HW.q2]
 go_wp2_with(go_at_call 219;refine PF HE.o λW2 b2=> ?_;have B2:=aa (Pd HB.o b2);clear b2);all_goals go_ret
 .exact⟨zaS,B2.o⟩
 .exact⟨zaS,HB.o⟩
 .exact⟨zaS,HB.o⟩
def DJ(w:Wo)(v u:Va)(ps qs:List (ay×Va))(h:mP w w v ps)(h' :mP w w u qs)(hl:ps.length<=100000):
  Calls prog 195 #[v,u,.func (.func 196) #[] #[]] w (iF (.bool (decide (ps.map Prod.fst=qs.map Prod.fst))) λw' =>ci w w') :=by
 obtain⟨A,c,rfl⟩:=h.form;obtain⟨A',d,rfl⟩:=h'.form;have⟨n,hn⟩:=eX ps.length;have⟨n',sf⟩:=eX qs.length;rw[<-hn,<-sf];have⟨T,hT⟩:=eX (decide (ps.map Prod.fst=qs.map Prod.fst));rw[<-hT];by_cases jX:n=n'
 .subst jX;have H:=aa h;have H' :=aa h';have Hn:=kH hn sf (by omega:n<=100000) hT;clear h h' hl hn sf hT;go_in;go_wp2;go_loopw [17] (λiv wr=>∃k:Nat,iv= ac k/\Af (k<=n/\(ps.map Prod.fst).take k=(qs.map Prod.fst).take k/\ci w wr)) (λiv _=>n - (intOf iv).toNat)
  .exact zgb
  .obtain⟨k,rfl,HR⟩:=hrel;by_cases hk:k<n
   .obtain⟨p,hp⟩:∃p,ps[k]? =some p:=⟨_,Qf (Hn.p1▸hk)⟩;obtain⟨q,hq⟩:∃p,qs[k]? =some p:=⟨_,Qf (Hn.p2▸hk)⟩;have hS:=H.o.below HR.q2;have TM :=H'.o.below HR.q2;obtain⟨b,o,c',hv,bO,z0,z1,z2⟩:=hS.cells hp;obtain rfl:A=some (an b o):=(by injection hv);obtain⟨b',o',d',mQ,tu,y0,y1,y2⟩:=TM.cells hq;obtain rfl:A' =some (an b' o'):=zcr;have eE:=hS.es p (Qi hp);have aa7 :=TM.es q (Qi hq);obtain⟨Ae,ce,hU,-,-⟩:=eE.1.1.form;have⟨L,hL⟩:=eX p.1.es.length;obtain⟨Ae',ce',UK,-,-⟩:=aa7.1.1.form;have⟨L',hL'⟩:=eX q.1.es.length;rw[<-hL] at hU;rw[hU] at z2;rw[<-hL'] at UK;rw[UK] at y2;have⟨dp,hd⟩:=eX p.1.depth;have⟨nx,fu⟩:=eX p.1.next;have⟨dp',hd'⟩:=eX q.1.depth;have⟨nx',aa0⟩:=eX q.1.next;rw[<-hd] at z0;rw[<-fu] at z1;rw[<-hd'] at y0;rw[<-aa0] at y1;obtain⟨W3,cD,X3,b3⟩:=nW wr [io dp,gc nx,am Ae L ce] 79;have s3:W3.heap.size=wr.heap.size+1:=(by rw[cD];simp);obtain⟨W4,j7,Y4,b4⟩:=nW W3 [io dp',gc nx',am Ae' L' ce'] 79;have WK:=Pd b3 b4;have⟨R,hR⟩:=eX (decide (p.1=q.1));have AZ:=rI W4 p.1 q.1 p.2 q.2 (gA (eE.1.more HR.q2.size) WK) (gA (aa7.1.more HR.q2.size) WK) (Qh eE.2.2.2 Fd);rw[<-hR,<-hd,<-fu,<-hd',<-aa0,hU,UK] at AZ;have cU:=aa HR.o;have HX:=kH hp hq hR hk;have X4:=X3.on b4;obtain⟨x0,x1,x2⟩:=ra X4;obtain⟨w0,w1,w2⟩:=ra Y4;have y0' :=(b3.cell (p:=an b' (o' +k*3)) (Qn tu HR.q2.size)).trans y0;have y1' :=(b3.cell (p:=an b' (o' +k*3+1)) (Qn tu HR.q2.size)).trans y1;have y2' :=(b3.cell (p:=an b' (o' +k*3+2)) (Qn tu HR.q2.size)).trans y2;obtain⟨HB,mT,Bh⟩:=qC (Pd HR.q2 WK) cD.symm j7.symm;have⟨gx,pZ⟩:=eX wr.heap.size;have⟨gy,ZW⟩:=eX W3.heap.size;rw[<-pZ] at x0 x1 x2;rw[<-ZW] at w0 w1 w2;have Hg:=dK pZ.symm ZW.symm;obtain⟨u1,u2,u3⟩:=bR hk Hn.p3 Fd;have HLt:=dK tu bO;clear hv bO hS hp eE hR hU hL hd fu HR hk mQ tu TM hq aa7 UK hL' hd' aa0 cD X3 b3 s3 j7 Y4 b4 WK X4 pZ ZW y0 y1 y2;change Af _ at AZ u1;go_upto_region 6 with fail;rw[mT.o,Hg.p1];clear z0 z1 z2;go_upto_region 7 with fail;rw[Bh.o,Hg.q1];clear y0' y1' y2';cases R
    .have HT:Af (T=false):=(by show _=_;rw[Hn.q3];refine Xe λhe=> ?_;have h1:=Qbo HX.p3.symm;have h2:(ps.map Prod.fst)[k]? =some p.1:=(by rw[Qt,HX.p1];rfl);have h3:(qs.map Prod.fst)[k]? =some q.1:=(by rw[Qt,HX.p2];rfl);rw[he,h3] at h2;exact h1 (Qr h2).symm);go_wp2_with(go_at_call 196;refine Pe AZ.o λW5 B5=> ?_);(all_goals(try rw[Qv]));(all_goals go_ret);all_goals exact⟨IT,Pd HB.o B5.o⟩
    .go_wp2_with(go_at_call 196;refine Pe AZ.o λW5 B5=> ?_);refine⟨⟨k+1,Nm,HX.q3,(uT cU.p2 (by rw[Qt,HX.p1];rfl) (by rw[Qt,HX.p2];rfl)).2 (XQ HX.p3.symm),Pd HB.o B5.o⟩,by first|exact al HX.q3|(rw[u1.o];exact al HX.q3)⟩
   .have cH:=QE HR.p1 (QC hk);have HT:Af (T=true):=(by show _=_;rw[Hn.q3];have h1:=HR.p2;rw[cH,Qj (by rw[Qq];exact Xg Hn.p1.symm),Qj (by rw[Qq];exact Xg Hn.p2.symm)] at h1;exact Xa h1);have HL:=aa HR.q2;subst cH;clear HR hk;go_wp2;(try rw[Qv]);exact zfX
 .have HT:Af (T=false):=by show _=_;rw[hT];refine Xe λhe=>jX ?_;have:=XF List.length he;rw[Qq,Qq] at this;rw[hn,sf,this]
  have Wp:¬(n:Int)=n' :=λh=>jX (Qgv h);clear h h' hl hn sf jX hT;go_in;go_wp2;all_goals(try rw[Qv])
  all_goals go_ret
  all_goals exact⟨IT,pi⟩
def KD(w:Wo)(a c:ak)(v u:Va)(h:Uq w w v a)(h' :Uq w w u c)(hl:a.blocks.length<=100000)(hl' :c.blocks.length<=100000)(rf:a.ah.length<=100000):
  Calls prog 141 #[v,u] w (iF (.bool (decide (a=c))) λw' =>ci w w') :=by
 obtain⟨bv,sv,ps,rfl,hb,hs,fc⟩:=h.ex;obtain⟨NC,tZ,qs,rfl,EB,hs',hqs⟩:=h'.ex;obtain⟨W0,aY,X0,B0⟩:=nW w [ac a.ax,ac a.depth,bv,sv] 72;have s0:W0.heap.size=w.heap.size+1:=zbf;obtain⟨W1,aW,Y1,B1⟩:=nW W0 [ac c.ax,ac c.depth,NC,tZ] 72;have fI:=Pd B0 B1;have X1:=X0.on B1;rw[s0] at Y1;have HE:=ach W1 bv NC a.blocks c.blocks _ _ (Ns.below hb fI) (Ns.below EB fI) (Qh hl Fd) (Qh hl' Fd);have HF:=λW2 (b2:ci W1 W2)=>DJ W2 sv tZ ps qs ((hs.below (Pd fI b2)).more (Qh fI.size b2.size)) ((hs'.below (Pd fI b2)).more (Qh fI.size b2.size)) (by rw[<-fc,Qq] at rf;exact rf);rw[fc,hqs] at HF;have⟨yb,Io⟩:=eX (w.heap.size+1);rw[<-Io] at Y1;have⟨af,haf⟩:=eX a.ax;have⟨ad,had⟩:=eX a.depth;have⟨cf,SP⟩:=eX c.ax;have⟨cd,hcd⟩:=eX c.depth;rw[<-haf,<-had] at X1 aY|-;rw[<-SP,<-hcd] at Y1 aW|-;have HW:=iJ aY.symm aW.symm Io.symm;obtain⟨x0,x1,x2⟩:=ra X1;obtain⟨y0,y1,y2⟩:=ra Y1;replace X1:=aa X1;replace Y1:=aa Y1;have HB:=aa fI;have⟨R,hR⟩:=eX (a.blocks==c.blocks);have⟨R2,SU⟩:=eX (decide (a.ah=c.ah));rw[<-hR] at HE;replace HE:=aa HE;simp only[<-SU] at HF;replace HF:=aa HF;have HT:Af (decide (a=c)=(((af:Int)==cf)&&(((ad:Int)==cd)&&(R&&R2)))):=by
  show _=_;rw[haf,had,SP,hcd,hR,SU,XD];simp only[XS,XR,Qbq,Int.natCast_inj];constructor
  .rintro rfl;exact⟨rfl,rfl,rfl,rfl⟩
  .rintro⟨h1,h2,h3,h4⟩;cases a;cases c;simp_all
 clear h h' hb hs fc EB hs' hqs hl hl' rf haf had SP hcd aY X0 B0 s0 aW B1 fI Io hR SU;go_in;go_upto_region 1 with fail;rw[HW.p1,HW.p2];try rw[HW.q2]
 go_wp2_with(first
  |(go_at_call 194;refine HE.o.mono ?_;rintro e W2 ⟨rfl,q2,MD⟩;have b2:ci W1 W2:=(by(rw[MD];exact DK W1 q2));clear MD;have x3:=(X1.o.on b2).j3;have y3:=(Y1.o.on b2).j3;have HG:=aa (HF.o W2 b2);have B2:=aa (Pd HB.o b2);clear b2)
  |(go_at_call 195;refine HG.o.mono ?_;rintro e W3 ⟨rfl,b3⟩;have B3:=aa (Pd B2.o b3);clear b3))
 all_goals go_ret
 .exact⟨zaS,B3.o⟩
 .exact⟨zaS,B2.o⟩
 .exact⟨zaS,HB.o⟩
 .exact⟨zaS,HB.o⟩
variable{g k:Nat}{P:ST}{ops:LC}{Q:Mp}{a:Act}{rest:List Oper}{dst:Option Tmp}{x:Operand}{t ty:Fy}{pos:String}{after:Array Edge}
structure mI(w:Wo)(S:FV)(v:Va)(cs:List ak):Prop where
 ex:∃ms:List (ak×Va×Va),Sl w w 4 v ms.length (ms.flatMap Nz)/\Ap S v/\(∀m∈ms,jw w S (chA m) m.1)/\ms.map Prod.fst=cs
def mI.on{w:Wo}(h:mI w S v cs)(hb:ci w w'):mI w' S v cs:=by obtain⟨ms,h1,h2,h3,h4⟩:=h.ex;exact⟨ms,Sl.more (Sl.below h1 hb) hb.size,h2,λm hm=>(h3 m hm).on hb,h4⟩
def mI.aL{w:Wo}(h:mI w S v cs)(hc:aG T w w')(hT:∀x,T x->S x):mI w' S v cs:=by obtain⟨ms,h1,h2,h3,h4⟩:=h.ex;exact⟨ms,Sl.more (Sl.aL h1 hc go (h2.mono hT)) hc.size,h2,λm hm=>(h3 m hm).aL hc hT,h4⟩
def mI.mono{w:Wo}(h:mI w S v cs)(hT:∀x,T x->S x):mI w T v cs:=by obtain⟨ms,h1,h2,h3,h4⟩:=h.ex;exact⟨ms,h1,h2.mono hT,λm hm=>(h3 m hm).mono hT,h4⟩
def mI.form{w:Wo}(h:mI w S v cs):∃A c,v= am A cs.length c:=by obtain⟨ms,h1,-,-,h4⟩:=h.ex;obtain⟨A,c,hv,-,-⟩:=h1.form;exact⟨A,c,by rw[hv,<-h4,Qq]⟩
def eN.ls{w:Wo}{base:Nat}(h:eN w S base v cs)(hS:∀x,S x->x<base):mI w S v cs:=by
 obtain⟨ms,h1,h2,h3⟩:=h.ex;refine⟨ms,Sl.bU h1,λb o n c hn e hx=> ?_,λm hm=>(h2 m hm).mono (λx hx=>Or.inl hx),h3⟩;subst e;have h5:=Xr h1;rcases h1.2 with⟨h6,-⟩|⟨g,cap,cur,h6,hg,-⟩
 .cases h6
 .cases h6;exact absurd (hS _ hx) (XV.2 hg)
def VO:∀(ms:List (ak×Va×Va)) (k:Nat) (m:ak×Va×Va),ms[k]? =some m->∀j,j<4->(ms.flatMap Nz)[k*4+j]? =(Nz m)[j]? :=by
 intro ms;induction ms with
 |nil=>intro k p h;simp at h
 |cons a r ih=>
  intro k p h j hj;cases k with
  |zero=>
   simp at h;subst h;rw[Xz,QR,QH,QN (by simpa[Nz] using hj)]
  |succ k=>
   have:=ih k p EQ j hj;rw[QH,QM (by simp[Nz];omega),<-this];congr 1;simp[Nz];omega
def mI.cells{w:Wo}(h:mI w S v cs)(hk:cs[k]? =some c):
  ∃b o cap bv sv,v= el b o cs.length cap/\b<w/\jp w b (o+k*4) (ac c.ax)/\jp w b (o+k*4+1) (ac c.depth)/\jp w b (o+k*4+2) bv/\jp w b (o+k*4+3) sv/\jw w S (.agg #[ac c.ax,ac c.depth,bv,sv]) c:=by
 obtain⟨ms,h1,-,h3,h4⟩:=h.ex;have hkm:∃m,ms[k]? =some m/\m.1=c:=by
  rw[<-h4,Qt] at hk;cases hm:ms[k]? with
  |none=>rw[hm] at hk;cases hk
  |some m=>rw[hm] at hk;exact⟨m,rfl,Wr⟩
 obtain⟨m,hm,rfl⟩:=hkm;obtain⟨bQ,-⟩:=Ql.1 hm;obtain⟨b,o,cap,hv,-,-,hr⟩:=h1.row (QO lm bQ);have hg:=λj hj=>VO ms k m hm j hj;have hc:∀j u,j<4->(Nz m)[j]? =some u->jp w b (o+(k*4+j)) u:=λj u hj hu=>hr.2 (k*4+j) u (by rw[hg j hj,hu]);refine⟨b,o,cap,m.2.1,m.2.2,?_,hr.1,?_,?_,?_,?_,h3 m (Qi hm)⟩
 .rw[hv,<-h4,Qq]
 .exact hc 0 _ Fd rfl
 .exact hc 1 _ Fd rfl
 .exact hc 2 _ Fd rfl
 .exact hc 3 _ Fd rfl
def mI.lG{w:Wo}(h:mI w S v cs)(hk:cs[k]? =some c):
  ∃(b o cap:Nat) (A1 A2:GB) (m1 c1 m2 c2:Nat),v= el b o cs.length cap/\b<w/\jp w b (o+k*4) (ac c.ax)/\jp w b (o+k*4+1) (ac c.depth)/\jp w b (o+k*4+2) (am A1 m1 c1)/\jp w b (o+k*4+3) (am A2 m2 c2)/\jw w S (.agg #[ac c.ax,ac c.depth,am A1 m1 c1,am A2 m2 c2]) c:=by
 obtain⟨b,o,cap,bv,sv,h1,h2,h3,h4,h5,h6,h7⟩:=h.cells hk;obtain⟨NC,tZ,ps,he,g1,-,g2,-⟩:=h7.ex;obtain⟨rfl,rfl⟩:bv=NC/\sv=tZ :=zaR;obtain⟨A1,c1,rfl,-,-⟩:=g1.form;obtain⟨A2,c2,rfl⟩:=g2.s.form;exact⟨b,o,cap,A1,A2,_,c1,_,c2,h1,h2,h3,h4,h5,h6,h7⟩
section
def wl_alloc_arr{d:Tmp}(cs:Zvv)(hi:(P.info? t).map (λi=>(i.zero,i.size))=some (some (.agg cs),cs.size))
  (hk:wpList P ops Q rest (a.put (some d) w) (w.alloc (.cells cs t))):
  wpList P ops Q (⟨some d,.alloc t,ty,pos,after,none⟩::rest) a w:=by
 refine Qbi rfl λK hK=> ?_;have ha:(Instr.alloc t true (.tuple #[])).run P w= .ok w (qr w cs t):=by have oI:=(zero_of_info hi).1;simp[Instr.alloc,oI,newVar,newRow,Result.andThen,Value.cells]
 unfold Oper.wp;simp[execOp,ha,Result.andThen];exact hK _ _ hk
def fN{w:Wo}{t:Fy}{cs:Ox}{n:Nat}{e:Fy}(h:aq w g t cs)(hu:P.underlying t=some (.array n e))(hi:(P.info? t).map (·.size)=some cs.length):
  (Instr.loadAt t g).run P w= .ok (.agg cs.toArray) w:=by
 simp only[Instr.loadAt,Instr.sureAddr,Qaz,Qcc,Result.andThen];exact run_loadVar_row w g t t cs.toArray (0,0) _ h hu rfl (by rw[hi,QW])
def jo{w:Wo}{t:Fy}{cs new:Ox}(h:aq w g t cs)(hi:(P.info? t).map (·.size)=some new.length)(hl:cs.length=new.length)(h1:∀u∈new,u.oneCell' =true):
  (Instr.storeAt t g (.agg new.toArray)).run P w= .ok () (w.setRow g new.toArray):=by
 simp only[Instr.storeAt,Instr.sureAddr,Qaz,Qcc,Result.andThen];exact run_storeVar_row w g t t cs.toArray new.toArray h (by rw[hi,QW]) zdy (all_oneCell_toArray h1)
def wl_store{y:Operand}(p v:Va)(hx:a.eval x=p)(hy:a.eval y=v)(h:(Instr.storeAt t p v).run P w= .ok () w')(hk:wpList P ops Q rest (a.put dst undef) w'):
  wpList P ops Q (⟨dst,.store t x y,ty,pos,after,none⟩::rest) a w:=
 Qbi rfl λK hK=>by unfold Oper.wp;rw[<-hx,<-hy] at h;exact zfj
end
def lZ{w:Wo}{t:Fy}{cs:Ox}(h:aq w g t cs)(new:Ox):aq (w.setRow g new.toArray) g t new:=by unfold aq at h|-;unfold World.setRow;simp only[Qge,h];simp
def below_setRow{B:Nat}{w:Wo}(h:Below B w w')(hg:B<=g)(c:Zvv):Below B w (w'.setRow g c):=
 ⟨h.os,h.tape,h.output,by show _<=(Array.modify _ _ _).size;rw[Array.size_modify];exact h.size,λk hk=>by
  show(Array.modify _ _ _)[k]? =_;rw[Qge,Xd Mx];exact h.block k hk⟩
def ahN:(prog.info? 238).map (λi=>(i.zero,i.size))=some (some (.agg (replicate 256 (ac 0)).toArray),(replicate 256 (ac 0)).toArray.size):=KJ
def uI:(prog.info? 238).map (·.size)=some 256:=KJ
def Fb(cs:List ak)(n k m:Nat):Nat:=if m<n then gL cs m else if m=n then gL (cs.take k) n else 0
def gi(cs:List ak)(n k:Nat):List Va:=(range 256).map λm=> .int .i64 (Fb cs n k m:Nat)
def nK(cs:List ak)(n k:Nat):(gi cs n k).length=256:=by simp[gi]
def CY(cs:List ak)(n k:Nat)(hn:n<256):(gi cs n k)[n]? =some (ac (gL (cs.take k) n:Nat)):=by rw[gi,Qt,Qam hn];simp[Fb]
def vT(cs:List ak)(k n:Nat)(c:ak)(h:cs[k]? =some c):gL (cs.take (k+1)) n=gL (cs.take k) n+if bY c.ax c.depth n then 1 else 0:=by unfold gL;rw[aA cs k c h,Qcd,List.countP_singleton]
def yM(cs:List ak)(n k:Nat)(hn:n<256):(gi cs n k).set n (ac (gL (cs.take (k+1)) n:Nat))=gi cs n (k+1):=by
 apply Qal;intro j;unfold gi;rw[Qbl];by_cases hj:n=j
 .subst hj;simp[hn,Fb]
 .rw[Xd hj,Qt,Qt];by_cases hj2:j<256
  .rw[Qam hj2];simp[Fb,Xm hj]
  .rw[QQ (by simpa using hj2)];rfl
def Me(cs:List ak)(n:Nat):gi cs n cs.length=gi cs (n+1) 0:=by
 unfold gi;refine Zj λm _=> ?_;unfold Fb;rw[XU];by_cases h1:m<n
 .rw[Xo h1,Xo Mx]
 .by_cases h2:m=n
  .rw[Xd h1,Xo h2,Xo Mx,h2]
  .rw[Xd h1,Xd h2,Xd Mx];split
   .simp[gL]
   .rfl
def Md(cs:List ak):gi cs 0 0=replicate 256 (ac 0):=by
 refine List.eq_replicate_iff.2 ⟨nK _ _ _,λb hb=> ?_⟩;unfold gi at hb;obtain⟨m,-,rfl⟩:=QU.1 hb;unfold Fb;split
 .rename_i h;exact absurd h (Qew _)
 .split<;>simp[gL]
def Mf(cs:List ak):gi cs 256 0=(dF cs).map λk:Nat=>ac k:=by unfold gi dF;rw[Qbg];refine Zj λm hm=> ?_;have:=Zm.1 hm;rw[Fb,Xo this];rfl
structure UZ(w:Wo)(cs:List ak)(rb ob:Nat)(n k:Nat)(wr:Wo):Prop where
 own:aq wr ob 238 (gi cs n k)
 res:aq wr rb 238 (List.replicate 256 (Value.int .i64 0))
 low:Below w w wr
def Sf(cs:List ak)(n k:Nat):∀u∈gi cs n k,u.oneCell' =true:=by intro u hu;unfold gi at hu;obtain⟨m,-,rfl⟩:=QU.1 hu;rfl
def sV(w:Wo)(S:FV)(v:Va)(cs:List ak)(h:mI w S v cs)(hl:cs.length<=10000)(hc:∀c∈cs,c.ax<256/\c.depth<=8):
  Calls prog 142 #[v] w (iF (.agg ((dF cs).map λk:Nat=>ac k).toArray) λw' =>ci w w') :=by
 obtain⟨A,cap,rfl⟩:=h.form;have⟨L,hL⟩:=eX cs.length;rw[<-hL];have⟨Z,hZ⟩:=eX ((replicate 256 (ac 0)).toArray);have HZi:Af ((prog.info? 238).map (λi=>(i.zero,i.size))=some (some (.agg Z),Z.size)):=by rw[hZ];exact ahN
 have⟨W0,aY⟩:=eX (w.alloc (.cells Z 238));have X0:aq W0 w 238 (replicate 256 (ac 0)):=by rw[aY,hZ];exact ar w _ _
 have B0:ci w W0:=zay;have⟨W1,aW⟩:=eX (W0.alloc (.cells Z 238));have Y1:aq W1 W0 238 (replicate 256 (ac 0)):=by rw[aW,hZ];exact ar W0 _ _
 have B1:ci W0 W1:=zab;have⟨rb,ft⟩:=eX w.heap.size;have⟨ob,Ty⟩:=eX W0.heap.size;have rj:Af (UZ w cs rb ob 0 0 W1):=⟨by rw[Md,Ty];exact Y1,by rw[ft];exact X0.on B1,Pd B0 B1⟩;have fq:Af (w.heap.size<=rb/\rb<ob):=⟨by rw[ft];exact go,by rw[ft,Ty];exact X0.lt⟩;have HW:=kH aY.symm aW.symm ft.symm Ty.symm;have HL:=dK hL (by omega:L<=10000);have⟨T,hT⟩:=eX (((dF cs).map λk:Nat=>ac k).toArray);rw[<-hT];have HT:Af (T=(gi cs 256 0).toArray):=by show _=_;rw[hT,Mf]
 clear hL hl hZ aY X0 B0 aW Y1 B1 ft Ty hT;change Af _ at h hc;go_in;go_wp2_with(refine wl_alloc_arr Z HZi.o ?_;first|rw[HW.p1,HW.p3]|rw[HW.p2,HW.q3]);go_loopw [7] (λiv wr=>∃n:Nat,iv= ac n/\Af (n<=256/\UZ w cs rb ob n 0 wr)) (λiv _=>256 - (intOf iv).toNat)
 .exact zfB
 .obtain⟨n,rfl,HR⟩:=hrel;by_cases hn:n<256
  .have n0:=Xh n;have n1:(n:Int)<256:=(by omega);have w1:wrap64 ((n:Int)+1)=(n:Int)+1:=vW;have Hn:=dK hn w1;have HS:=aa HR.q1;clear HR hn w1;go_wp2_with fail;go_loopw [12] (λjv wr=>∃k:Nat,jv= ac k/\Af (k<=L/\UZ w cs rb ob n k wr)) (λjv _=>L - (intOf jv).toNat)
   .exact⟨0,rfl,lm,HS.o⟩
   .obtain⟨k,rfl,HR⟩:=hrel;by_cases hk:k<L
    .obtain⟨c,jV⟩:∃c,cs[k]? =some c:=⟨_,Qf (by rw[<-HL.p1];exact hk)⟩;obtain⟨b,o,rr,A1,A2,m1,c1,m2,c2,hv,bO,z0,z1,z2,z3,-⟩:=h.o.lG jV;obtain rfl:A=some (an b o):=(by injection hv);have AB:=hc.o c (Qi jV);have aU:=HR.q1.low;have y0:=(aU.cell (p:=an b (o+k*4)) bO).trans z0;have y1:=(aU.cell (p:=an b (o+k*4+1)) bO).trans z1;have y2:=(aU.cell (p:=an b (o+k*4+2)) bO).trans z2;have y3:=(aU.cell (p:=an b (o+k*4+3)) bO).trans z3;have⟨fr,eo⟩:=eX c.ax;have⟨dp,eK⟩:=eX c.depth;have⟨R,hR⟩:=eX (bY c.ax c.depth n);rw[<-eo] at y0;rw[<-eK] at y1;obtain⟨W5,j6,X5,b5⟩:=nW wr [ac fr,ac dp,am A1 m1 c1,am A2 m2 c2] 72;have HI:=tV W5 c.ax c.depth n AB.1 AB.2 Hn.p1 (am A1 m1 c1) (am A2 m2 c2);rw[<-hR,<-eo,<-eK] at HI;have HI:=aa HI;have⟨gx,pZ⟩:=eX wr.heap.size;rw[<-pZ] at X5;obtain⟨x0,x1,x2,x3⟩:=mm X5;have zb:=dK j6.symm pZ.symm;have⟨q,hq⟩:=eX (gL (cs.take k) n);have hqk:q<=k:=(by rw[hq];unfold gL;exact Qh Qdm (by rw[Qu];exact Qdj _ _));have wq:wrap64 ((q:Int)+1)=(q:Int)+1:=(by have:=HL.q1;exact vW);have HX:=Ba jV hk hR hq wq;have cU:=aa HR.q1;have HOn:Af (∀W,ci W5 W->jp W ob n (ac q)/\W.frozen? (an ob n)=false):=λW hW=>(by have h1:=(cU.o.own.on b5).on hW;exact⟨h1.cell (by rw[CY cs n k Hn.p1,<-HX.p4]),h1.free n⟩);obtain⟨u1,u2,u3⟩:=bR hk HL.q1 Fd;clear jV hv bO z0 z1 z2 z3 AB aU eo eK hR j6 X5 pZ hq hqk wq HR hk;change Af _ at b5 u1;go_upto_region 8 with fail;rw[zb.p1,zb.q1];clear y0 y1 y2 y3;cases R
     .have HT:Af (gi cs n k=gi cs n (k+1)):=(by show _=_;rw[<-yM cs n k Hn.p1,vT cs k n c HX.p1,<-HX.p3];have h1:=CY cs n k Hn.p1;obtain⟨h2,h3⟩:=Ql.1 h1;show gi cs n k=(gi cs n k).set n (ac ((gL (cs.take k) n+0:Nat):Int));rw[XC,<-h3,List.set_getElem_self]);go_wp2_with(go_at_call 92;refine HI.o.mono ?_;rintro e W6 ⟨rfl,b6⟩;have B6:=aa (Pd b5.o b6);clear b6);refine⟨⟨k+1,Nm,HX.p2,?_⟩,zaa⟩;exact⟨by rw[<-HT.o];exact cU.o.own.on B6.o,cU.o.res.on B6.o,Pd cU.o.low B6.o⟩
     .have HT:Af ((gi cs n k).set n (ac ((q:Int)+1))=gi cs n (k+1)):=(by show _=_;rw[<-yM cs n k Hn.p1,vT cs k n c HX.p1,<-HX.p3,<-HX.p4];rfl);go_wp2_with(go_at_call 92;refine HI.o.mono ?_;rintro e W6 ⟨rfl,b6⟩;have o6:=(HOn.o W6 b6).1;have f6:=(HOn.o W6 b6).2;have B6:=aa (Pd b5.o b6);clear b6);refine⟨⟨k+1,Nm,HX.p2,?_⟩,zaa⟩;have h8:=(cU.o.own.on B6.o).set n (ac ((q:Int)+1));rw[HT.o] at h8;have hv:=HX.q4;(try rw[hv]);exact⟨h8,(cU.o.res.on B6.o).az (p:=an ob n) (XP fq.q1) _,(Pd cU.o.low B6.o).setCell (p:=an ob n) (Qh fq.p1 (QX fq.q1)) _⟩
    .have cH:=QE HR.p1 (QC hk);have HE:Af (UZ w cs rb ob (n+1) 0 wr):=(by have h1:=HR.q1;rw[cH,HL.p1] at h1;exact⟨by rw[<-Me];exact h1.own,h1.res,h1.low⟩);subst cH;clear HR hk;go_wp2_with fail;exact⟨⟨n+1,zaH,Hn.p1,HE.o⟩,Rp⟩
  .have cH:=QE HR.p1 (QC hn);have HE:=aa HR.q1;subst cH;have xF:=aa (fN (P:=prog) HE.o.own underlying238 zdC);have HSt:=aa (jo (P:=prog) (new:=gi cs 256 0) HE.o.res zdC (by rw[nK];simp) (Sf cs 256 0));have oL:=lZ HE.o.res (gi cs 256 0);have⟨W9,ED⟩:=eX (wr.setRow rb (gi cs 256 0).toArray);have aU:=below_setRow HE.o.low fq.p1 (gi cs 256 0).toArray;rw[<-ED] at HSt oL aU;have On:=aa (fN (P:=prog) oL underlying238 zdC);have NN:=aa aU;rw[<-HT.o] at xF HSt On;clear HR hn oL ED aU;go_wp2_with(first
    |((with_reducible refine wl_load ob (.agg T) ?_ xF.o ?_);(·rfl))
    |((with_reducible refine wl_store rb (.agg T) ?_ ?_ HSt.o ?_);(·rfl);(·rfl)))
   exact zer
variable{B:Nat}{W:Wo}{ls:List (Va × List Int)}{k:IntKind}{xs:Fr}
def aca:(prog.info? 53).map (λi=>(i.zero,i.size,i.bytes))=some (some (am none 0 0),1,24):=KJ
structure EG(base:Nat)(W:Wo)(v:Va)(ls:List (Va×List Int)):Prop where
 row:W.ownsRow base 53 1 v ls.length (ls.map Prod.fst)
 ns:∀p∈ls,Ns W base .i64 p.1 p.2
def EG.form(h:EG base W v ls):∃A c,v= am A ls.length c:=by
 rcases h.row.2 with⟨rfl,h0⟩|⟨g,cap,cur,rfl,_⟩
 .rw[h0];exact⟨_,_,rfl⟩
 .exact⟨_,_,rfl⟩
def EG.on{W' :Wo}(h:EG base W v ls)(hb:ci W W')(hB:base<=W):EG base W' v ls:=
 ⟨aS h.row hb,λp hp=>Sl.acu (h.ns p hp) hb hB⟩
def EG.nsL(h:EG base W v ls)(hB:base<=W):NsL W v ls:=by refine⟨?_,λp hp=>(h.ns p hp).more hB⟩;have:=Sl.bU h.row;exact this
def Vx(base:Nat)(W:Wo):EG base W (am none 0 0) []:=⟨Qbn _ _ _ _,λp hp=>zdh⟩
def abY(h:Ns w B k v xs):v.oneCell' =true:=by obtain⟨A,c,rfl,-,-⟩:=h.form;rfl
def xV(w:Wo)(base:Nat)(v:Va)(ls:List (Va×List Int))(h:EG base w v ls)(vx:Va)(ms:List (Va×List Int))(B:Nat)(hx:Sl w B 1 vx ms.length (ms.map Prod.fst))(SB:∀p∈ms,Ns w base .i64 p.1 p.2)(hl:ls.length+ms.length<=100000)(hb:base<=w)(ty:Fy):
  ∃v' w',(Builtin.append_ #[242,242] ty #[v,vx]).run prog w= .ok v' w'/\EG base w' v' (ls++ms)/\w.grownBy w' v.ownBlock:=by
 obtain⟨v',w',h1,h2,h3,-⟩:=cy (P:=prog) w base 242 ty 53 _ 1 24 underlying242 aca rfl Fd v ls.length _ h.row vx ms.length _ hx (λu hu=>by obtain⟨p,hp,rfl⟩:=QU.1 hu;exact abY (SB p hp)) Do Mx hb;have fg:=(Xj base w).grown h3 hb (λj e=>(Xr h.row j e).1);refine⟨v',w',h1,⟨?_,λp hp=> ?_⟩,h3⟩
 .rw[Qo,QL];exact h2
 .rcases Qz.1 hp with hp|hp
  .exact(h.ns p hp).below fg
  .exact(SB p hp).below fg
def sZ(w:Wo)(S:FV)(v:Va)(cs:List ak)(h:mI w S v cs)(hl:cs.length<=10000):
  Calls prog 146 #[v] w λr w' =>∃v' ls,r= .returned v'/\EG w w' v' ls/\ls.map Prod.snd=cs.map (·.blocks)/\ci w w'/\∀p∈ls,Ap S p.1:=by
 obtain⟨A,cap,rfl⟩:=h.form;have⟨n,hn⟩:=eX cs.length;rw[<-hn];have H:=aa h;have HN:=dK hn (by omega:n<=10000);clear h hn hl;go_in;go_wp2;go_loopw [8,3] (λiv v3 wr=>∃(k:Nat) (ls:List (Va×List Int)),iv= ac k/\Af (k<=n/\EG w wr v3 ls/\ls.map Prod.snd=(cs.take k).map (·.blocks)/\ci w wr/\∀p∈ls,Ap S p.1)) (λiv _ _=>n - (intOf iv).toNat)
 .exact⟨0,[],rfl,lm,Vx _ _,rfl,pi,λp hp=>absurd hp QV⟩
 .obtain⟨k,ls,rfl,HR⟩:=hrel;obtain⟨A3,c3,rfl⟩:=HR.p2.form;by_cases hk:k<n
  .obtain⟨c,hc⟩:∃c,cs[k]? =some c:=⟨_,Qf (HN.p1▸hk)⟩;obtain⟨b,o,rr,A1,A2,m1,c1,m2,c2,hv,bO,z0,z1,z2,z3,kG⟩:=H.o.lG hc;obtain rfl:A=some (an b o):=(by injection hv);have y0:=(HR.p4.cell (p:=an b (o+k*4)) bO).trans z0;have y1:=(HR.p4.cell (p:=an b (o+k*4+1)) bO).trans z1;have y2:=(HR.p4.cell (p:=an b (o+k*4+2)) bO).trans z2;have y3:=(HR.p4.cell (p:=an b (o+k*4+3)) bO).trans z3;obtain⟨NC,tZ,ps,he,gZ,pt,-,-⟩:=kG.ex;obtain⟨rfl,rfl⟩: am A1 m1 c1=NC/\ am A2 m2 c2=tZ :=zaR;have⟨fr,eo⟩:=eX c.ax;have⟨dp,eK⟩:=eX c.depth;rw[<-eo] at y0;rw[<-eK] at y1;obtain⟨W1,aW,X1,b1⟩:=nW wr [ac fr,ac dp,am A1 m1 c1,am A2 m2 c2] 72;obtain⟨W2,cE,X2,b2⟩:=nW W1 [am A1 m1 c1] 53;have Be:=Pd b1 b2;have x2:=X1.j2;have pT:=Ns.below gZ (Pd HR.p4 Be);have HL2:=HR.p2.on Be HR.p4.size;have agt:ls.length=k:=(by have:=XF List.length HR.p3;rw[Qq,Qq,Qu] at this;have:=HN.p1;omega);obtain⟨Up,HB,HOw⟩:=qC (xV W2 w _ ls HL2 (el W1.heap.size 0 1 1) [(am A1 m1 c1,c.blocks)] _ (X2.sl (o:=0) (n:=1) (sz:=1) (c:=1) Sv Fd AN) (λp hp=>by rw[Qx] at hp;subst hp;exact pT) (by rw[agt];simp;have:=HN.o;omega) (Qh HR.p4.size Be.size) 242) (Pd HR.p4 Be) (λj e=>(Xr HL2.row j e).1);have⟨gx,pZ⟩:=eX wr.heap.size;have⟨gy,ZW⟩:=eX W1.heap.size;rw[<-pZ] at x2;rw[<-ZW] at Up;have HW:=kH aW.symm cE.symm pZ.symm ZW.symm;have HX:=iJ hc hk HR.p3;have an7:Af (∀p∈ls++[((am A1 m1 c1:Va),c.blocks)],Ap S p.1):=λp hp=>by
    obtain hp|hp:=Qz.1 hp
    .exact HR.q4 p hp
    .rw[Qx.1 hp];exact pt
   have uk:=aa HB.o.size;obtain⟨u1,u2,u3⟩:=bR hk HN.q1 Fd;have Hu:=aa u1;generalize ls.length=nls at*;clear hv bO z0 z1 z2 z3 kG he gZ pt eo eK aW X1 b1 cE X2 b2 Be pT HL2 agt pZ ZW hc hk u1 HR;go_upto_region 5 with fail;rw[HW.p1,HW.p3];clear y0 y1 y2 y3;go_wp2_with(at_builtin;rw[HW.p2,HW.q3];(with_reducible refine wl_append_run (os:= .tmp 12) (ox:= .tmp 15) Up.o ?_ ?_ ?_);(·rfl);(·rfl);intro v' w' pt;have HA:=aa pt;clear pt);refine⟨⟨k+1,ls++[(am A1 m1 c1,c.blocks)],yL,HX.p2,HA.p1,?_,HB.o.grown HA.q1 HB.o.size HOw.o,an7.o⟩,LT⟩;rw[QL,HX.q2,aA cs k c HX.p1,QL];rfl
  .have cH:=QE HR.p1 (QC hk);have e1:cs.take k=cs:=Qj (by rw[cH,HN.p1];exact go);have HE:=kH HR.p2 (by rw[HR.p3,e1]:ls.map Prod.snd=cs.map (·.blocks)) HR.p4 HR.q4;subst cH;generalize ls.length=nls at*;clear HR hk e1;go_wp2_with fail;go_ret;exact⟨_,ls,rfl,HE.p1,HE.p2,HE.p3,HE.q3⟩
def abZ(h:Ns w B k v xs)(ha:Ap (λx=>base<=x) v):Ns w base k v xs:=by obtain⟨h1,A,c,hv,h2,h3,h4,h5⟩:=h;refine⟨h1,A,c,hv,h2,h3,h4,λhn=> ?_⟩;obtain⟨b,o,hA,hr⟩:=h5 hn;refine⟨b,o,hA,?_,hr.2⟩;exact Qdd (ha b o xs.length c hn (by rw[hv,hA]))
def mI.apart{S T:FV}{cs:List ak}(h:mI w S v cs)(hT:∀x,T x->S x\/w<=x):mI w T v cs:=by obtain⟨ms,h1,h2,h3,h4⟩:=h.ex;exact⟨ms,h1,Sl.apart h1 h2 hT,λm hm=>(h3 m hm).apart hT,h4⟩
variable{l sz n:Nat}{xs:Ox}{o:Obj}{F:Fence}
section
def Dp{α:Type}{g:Operand}{ps:Array Tmp}{assign body:Code}{Q:Mp}{a:Act}(ZI:F.round=none)(h1:1<=n){gf:Nat}{lb:Zvv}
  (hg:a.eval g= .func (.func gf) #[] lb) (hFg:F.fn gf) (eg:∀args w,(callFunc gf args).run P w= .ok (.enter gf args) w) (lC:α->Array Va) (fc:∀x,(lC x).size=ps.size)
  (S:FV) (hSl:∀x,S x->x<w) (Ok:List α->α->Wo->Prop) (BA:List α->Prop) (I:List α->Wo->Prop) (h0:∀W,ci w W->I [] W)
  (hIp:∀pre A (l:Nat) (o o' :Obj),I pre A->A.heap[l]? =some o->o.isCells=false->w<=l->I pre (A.putObj l o'))
  (hit:∀(l:Nat) (J:List α->Wo->Prop) (W:Wo),ci w W->(∀pre A,J pre A->I pre A)->
   (∀pre x W1,Ok pre x W1->J pre W1->YieldAt F (n - 1 - 1) P l (lC x) W1 λe W' =>e= .returned (.bool true)/\J (pre++[x]) W'/\aG (λk=>S k\/w<=k/\k<=w+1) W1 W')->J [] W->
   CallsIn F (n - 1) P gf (#[.func (.yield l) #[] #[]]++lb) W λe W' =>(∃v,e= .returned v)/\∃pre,BA pre/\J pre W')
  (a₁:α->Wo->Act) (W₁:α->Wo->Wo) (hW₁:∀x W,ci W (W₁ x W))
  (lJ:∀(l:Nat) (x:α) (W:Wo) (K:Act->Wo->Prop),K (a₁ x W) (W₁ x W)->
   assign.wpIn (F.inRound l) (n - 1 - 1) P (Exit.then K (λ_ _ _=>False)) {tmps:=(ps.zip (lC x)).foldl (λt (p,v)=>t.setIfInBounds p v) a.tmps,defers:=[]} W)
  (uM:∀(l:Nat) (pre:List α) (x:α) (W0:Wo) (o o' :Obj),Ok pre x W0->I pre W0->w.heap.size<=l->W0.heap[l]? =some o->o.isCells=false->w.heap.size<=W0.heap.size->
   body.wpIn (F.inRound l) (n - 1 - 1) P (λe _ W' =>e= .normal/\aG (λk=>S k\/W0<=k) ((W₁ x W0).putObj l o') W'/\I (pre++[x]) W') (a₁ x W0) ((W₁ x W0).putObj l o'))
  (kV:∀(D:Nat) (W:Wo) (pre:List α),w<=D->BA pre->I pre W->W.heap[D]? =some (.deferred (some []))->Q .normal {a with defers:={target:= .collected D,args:= #[]}::a.defers} W):
  (Code.rangeFunc g ps assign body).wpIn F n P Q a w:=by
 refine wpIn_rangeFunc λfn Nj=> ?_;rw[ZI];obtain⟨R,hR⟩:∃R:LoopState->Loop,R=λst=>{state:=st,pending:=none,fn,tmps:=a.tmps,params:=ps,assign,body,defers:=w.heap.size}:=⟨_,rfl⟩;have⟨W1,aW⟩:=eX ((w.alloc (.deferred (some []))).alloc (.loop (R .ready)));have e1:W1.heap[w.heap.size+1]? =some (.loop (R .ready)):=aW▸(cL w _ _);have e0:W1.heap[w.heap.size]? =some (.deferred (some [])):=aW▸(dx w _ _);have b1:ci w W1:=JQ;refine⟨w.heap.size+1,[{target:= .collected w.heap.size,args:= #[]}],W1,{target:= .fn (.func gf) lb,args:= #[.func (.yield (w.heap.size+1)) #[] #[]]},W1,gf,#[.func (.yield (w.heap.size+1)) #[] #[]]++lb,W1,?_,?_,?_,?_,λ_=>h1,?_⟩
 .exact zeq
 .simp only[resolve,hg];simp[go_sem]
 .intro f' tD;exact zet
 .exact zfM
 refine(hit (w.heap.size+1) (λpre W=>I pre W/\W.heap[w.heap.size+1]? =some (.loop (R .ready))/\W.heap[w.heap.size]? =some (.deferred (some []))) W1 b1 (λ_ _ h=>h.1) ?_ ⟨h0 W1 b1,e1,e0⟩).mono ?_
 .rintro pre x W0 aaZ ⟨i0,l0,d0⟩;have EW:=(Qy.1 l0).1;have aa9:=(Qy.1 d0).1;have hy:=run_yield (P:=P) (args:=lC x) l0 (hR▸(fc _));rw[hR] at hy;have Is:=hW₁ x W0;have l:=(Is.block _ EW).trans l0;have d:=(Is.block _ aa9).trans d0;have aJ:=(Qy.1 l).1;have Nl:=(Qy.1 d).1;refine⟨fn,_,assign,body,hy,roundIn_of_wpIn Nj (lJ _ x W0 _ ⟨_,run_beginRound l zcm,?_⟩)⟩;have l2:((W₁ x W0).putObj (w.heap.size+1) (.loop {R .ready with state:= .busy})).heap[w.heap.size+1]? =some (.loop {R .ready with state:= .busy}):=World.putObj_heap_same aJ;have d2:((W₁ x W0).putObj (w.heap.size+1) (.loop {R .ready with state:= .busy})).heap[w.heap.size]? =some (.deferred (some [])):=(World.putObj_heap_other Mx).trans d;refine Qit (uM _ pre x W0 _ _ aaZ i0 (Q0 _) l0 rfl Mx) ?_;rintro e a3 W3 ⟨rfl,mG,ZU⟩;have l3:=(mG.block (w.heap.size+1) (by rw[World.putObj_size];exact aJ) (λh=>h.elim (λh=>absurd (hSl _ h) Mx) (λh=>Mx))).trans l2;have d3:=(mG.block w.heap.size (by rw[World.putObj_size];exact Nl) (λh=>h.elim (λh=>absurd (hSl _ h) Mx) (λh=>Mx))).trans d2;refine⟨_,_,run_endRound none l3,rfl,⟨hIp _ _ _ _ _ ZU l3 rfl (Q0 _),?_,(World.putObj_heap_other Mx).trans d3⟩,?_⟩
  .rw[World.putObj_heap_same (Qy.1 l3).1,hR];rfl
  .refine⟨mG.os.trans Is.os,mG.tape.trans Is.tape,mG.output.trans Is.output,by rw[World.putObj_size];have h5:=mG.size;rw[World.putObj_size] at h5;exact Qh Is.size h5,λk hk hn=> ?_⟩;have bQ:k≠w+1:=λe=>hn (.inr Mx);rw[World.putObj_heap_other bQ,mG.block k (by rw[World.putObj_size];exact Qn hk Is.size) (λh=>h.elim (λh=>hn (.inl h)) (λh=>Mx)),World.putObj_heap_other bQ,Is.block k hk]
 .rintro e W2 ⟨⟨v,rfl⟩,pre,hd,i,l,d⟩;have he:=run_endLoop (P:=P) l zcM;have hp:(R .ready).pending=none:=zcm;rw[hp] at he;exact⟨none,_,he,kV _ _ _ go hd (hIp _ _ _ _ _ i l rfl (Q0 _)) ((World.putObj_heap_other Mx).trans d)⟩
end
def abO{n:Nat}(h:Sl w B sz v n xs)(cz:0<sz)(hl:w.heap[l]? =some o)(hc:o.isCells=false):Ap (λx=>x=l) v:=λb o' n' c' hn e hb=>by
 obtain⟨A,c,hv,-,-⟩:=h.form;rw[hv] at e;injection e with e1 e2 e3;subst e2;obtain⟨b2,o2,c2,AO,-,-,hr⟩:=h.row hn;rw[hv] at AO;injection AO with f1 f2 f3;rw[e1] at f1;injection f1 with f1;injection f1 with f1 f4;subst f1;have hlen:0<xs.length:=h.1▸(Nat.mul_pos hn cz);have h1:=hr.2 0 (xs[0]) (Qf hlen);have EB :=hb;subst EB;unfold World.cell? at h1
 cases o with
 |cells cs e fz=>simp[Obj.isCells] at hc
 |_=>simp[hl] at h1
def pF{n:Nat}(h:Sl w B sz v n xs)(hB:B<=w)(cz:0<sz)(hl:w.heap[l]? =some o)(hc:o.isCells=false)(o' :Obj):Sl (w.putObj l o') B sz v n xs:=
 Sl.aL h (fY (λx=>x=l) w l o' rfl) hB (abO h cz hl hc)
def cR.putObj{I:bF}{s:aX}(h:cR w I s)(hl:w.heap[l]? =some o)(hc:o.isCells=false)(hS:¬BS I l)(o' :Obj):cR (w.putObj l o') I s:=by
 obtain⟨pv,dv,ps,uf⟩:=h.cells;have q:aG (λx=>x=l) w (w.putObj l o'):=fY _ _ _ _ rfl;have hn:∀x,BS I x->¬(x=l):=λx hx e=>hS (e▸hx);have cz:(w.putObj l o').heap.size=w.heap.size:=World.putObj_size;refine⟨⟨pv,dv,ps,uf.own.aL q (hn _ (.inl rfl)),?_,uf.ed,?_,uf.fT,uf.jg.aL q (hn _ (.inr (.inr (.inr (.inr (.inr (.inr (.inr rfl)))))))),⟨uf.kz.1,λi=> ?_⟩⟩,?_,h.fh.aL q (hn _ (.inr (.inr (.inr (.inl rfl))))) (hn _ (.inr (.inr (.inr (.inr (.inl rfl)))))) (hn _ (.inr (.inr (.inr (.inr (.inr (.inl rfl))))))),h.pick.aL q (hn _ (.inr (.inr (.inr (.inr (.inr (.inr (.inl rfl)))))))),h.mf,h.ok⟩
 .rw[cz];exact pF uf.ag go Fd hl hc o'
 .rw[cz];exact pF uf.au go Fd hl hc o'
 .refine(uf.kz.2 i).imp id λ⟨g,c,data,h1,h2,h3,h4,h5⟩=>⟨g,c,data,h1,h2,⟨?_,h3.2⟩,h4,h5⟩;rw[cz];exact pF h3.1 go Fd hl hc o'
 .exact{h.dM with own:=h.dM.own.aL q (hn _ (.inr (.inl rfl))),eP:=h.dM.eP.aL q (hn _ (.inr (.inr (.inl rfl))))}
def Mr(w:Wo)(A:GB)(m c:Nat):Calls prog 200 #[am A m c] w (iF (.func (.func 220) #[] #[li w.heap.size]) λw' =>w' =w.alloc (.cells #[am A m c] 70)):=by go_in;go_wp2;exact vl
structure ry where
 i:Nat
 sh:ay
 A:Option Addr
 n:Nat
 c:Nat
def IP(x:ry):Array Va:= #[.int .i64 x.i,.agg #[.int .u8 x.sh.depth,.int .u32 x.sh.next,.slice x.A x.n x.c]]
structure Ow(S:FV)(ps:List (ay×Va))(pre:List ry)(x:ry)(W:Wo):Prop where
 at_:x.i+pre.length+1=ps.length
 it:ps[x.i]? =some (x.sh,.slice x.A x.n x.c)
 ok:pC x.sh
 es:Es W W (.slice x.A x.n x.c) x.sh.es
 ap:Ap S (.slice x.A x.n x.c)
def Ow.on{S:FV}{ps:List (ay×Va)}{pre:List ry}{x:ry}{A C:Wo}(h:Ow S ps pre x A)(hb:ci A C):Ow S ps pre x C:=⟨h.at_,h.it,h.ok,gA h.es hb,h.ap⟩
def Sq(n:Nat)(hn:1<=n)(l Bx:Nat)(A:GB)(N c:Nat)(ps:List (ay×Va))(S:FV)(W:Wo)(aH:jp W Bx 0 (am A N c))(Nx:Bx<W)(j8:¬S Bx)(hs:iP W S (am A N c) ps)(hN:N=ps.length)(hl:N<=10000)
  (J:List ry->Wo->Prop) (hY:∀pre x W1,Ow S ps pre x W1->J pre W1->YieldAt Fence.wide (n - 1) prog l (IP x) W1 λe W' =>e= .returned (.bool true)/\J (pre++[x]) W'/\aG S W1 W') (h0:J [] W):
  CallsIn Fence.wide n prog 220 #[.func (.yield l) #[] #[],li Bx] W λe W' =>(∃v,e= .returned v)/\∃pre:List ry,pre.length=ps.length/\J pre W' :=by
 refine Qfc func220 rfl trivial ?_ rfl;simp only[ntmps220,QW,QF,Xq,Nat.reduceAdd,Nat.reduceSub,Xv,Xw,Xx,Xy,QZ,Qaj];have HS:=kH aH Nx hs h0;have HB:=iJ j8 hN hl;have w0:wrap64 ((N:Int) - 1)=(N:Int) - 1:=vW;clear h0 hs Nx j8 hN hl;change Af _ at hY w0;gi_wp2;clear aH;gi_loopw [3] (λi wr=>∃pre:List ry,i= ac ((N:Int) - 1 - pre.length)/\Af (pre.length<=N/\jp wr Bx 0 (am A N c)/\Bx<wr/\iP wr S (am A N c) ps/\J pre wr)) (λi _=>(intOf i+1).toNat)
 .exact⟨[],by rw[w0.o];simp,lm,HS.p1,HS.p2,HS.p3,HS.q3⟩
 .obtain⟨pre,rfl,HR⟩:=hrel;have⟨m,hm⟩:=eX pre.length;rw[<-hm] at HR|-;by_cases hk:m<N
  .have⟨j,hj⟩:=eX (N - 1 - m);have e0:(N:Int) - 1 - m=(j:Int):=Mx;have j0:=Xh j;have w1:wrap64 ((j:Int) - 1)=(j:Int) - 1:=(by unfold wrap64;have:=HB.q2;omega);rw[e0];obtain⟨p,hp⟩:∃p,ps[j]? =some p:=⟨_,Qf (by rw[<-HB.p2];omega)⟩;obtain⟨b,o,c',hv,bO,z0,z1,z2⟩:=HR.p4.s.cells hp;injection hv with v1 v2 v3;subst v1;have hj1:(j:Int)<N:=Mx;have Wm:=Qi hp;have eE:=HR.p4.s.es p Wm;have y0:=HR.p2;obtain⟨sh,pv⟩:=p;obtain⟨Ae,ce,pY,-,-⟩:=Sl.form eE.1.1;have pY:pv= am Ae sh.es.length ce:=pY;subst pY;have yY:N<=c:=(by obtain⟨A',c'',e,h1,-⟩:=Sl.form HR.p4.s.sl;injection e with e1 e2 e3;rw[e3,HB.p2];exact h1);have hy:=hY.o pre ⟨j,sh,Ae,sh.es.length,ce⟩ wr ⟨by rw[<-hm];show j+m+1=_;rw[<-HB.p2];omega,hp,eE.2,eE.1,HR.p4.e _ Wm⟩ HR.q4;have HYy:=aa hy;have HRr:=aa HR.o;have Hm:=dK hk hm;have El:=dK w1 hj;clear hp bO Wm eE hy HR hk hm e0 HS hj w1 v2 v3;unfold IP at HYy;dsimp only at z0 z1 z2 HYy;generalize sh.es.length=L at*;gi_upto_region 3 with fail;obtain⟨fn,tmps,assign,bd,hy,Nr⟩:=HYy.o;gi_wp2;refine Nr.mono ?_;rintro e W3 ⟨rfl,Nu,Nn⟩;clear hy Nr y0 z0 z1 z2;change Af _ at Nu Nn;gi_wp2;go_roundw
   .have hr:=HRr.o;refine⟨pre++[⟨j,sh,Ae,L,ce⟩],?_,?_,?_,?_,hr.2.2.2.1.aL Nn.o (λ_ h=>h),Nu.o⟩
    .rw[Qo,ZA,<-Hm.q1];have h1:=El.q1;have h2:=Hm.p1;first
      |rw[show(N:Int) - 1 - ((m+1:Nat):Int)=(j:Int) - 1 by omega]
      |rw[El.p1,show(N:Int) - 1 - ((m+1:Nat):Int)=(j:Int) - 1 by omega]
     first|rfl|rw[El.p1]
    .rw[Qo,ZA,<-Hm.q1];exact Hm.p1
    .exact(Nn.o.cell (p:=ol Bx) hr.2.2.1 HB.p1).trans hr.2.1
    .exact Qn hr.2.2.1 Nn.o.size
   .first
     |(show(((j:Int) - 1)+1).toNat<((j:Int)+1).toNat;omega)
     |(rw[El.p1];show(((j:Int) - 1)+1).toNat<((j:Int)+1).toNat;omega)
  .have hmN:=QE HR.p1 (QC hk);have e0:(N:Int) - 1 - m= -1:=Mx;rw[e0];have HJ:=aa HR.q4;have HE:Af (pre.length=ps.length):=(by show _=_;rw[<-hm,hmN,HB.p2]);clear hk hm hmN e0 HS HR;gi_wp2;go_end0;exact⟨⟨_,rfl⟩,pre,HE.o,HJ.o⟩
variable{dv pv:Va}{ps:List (Option (Nat × Nat))}{T' :FV}{w1:Wo}{t:aE}{I:bF}{s:aX}
structure acA(T:FV)(pv dv:Va)(ps:List (Option (Nat×Nat))):Prop where
 pa:Ap T pv
 da:Ap T dv
 fa:∀i g c,ps.getD i none=some (g,c)->¬T g
structure cS(T:FV)(w:Wo)(I:bF)(s:aX):Prop where
 at_:cR w I s
 rows:∃pv dv ps,dB w I s pv dv ps/\acA T pv dv ps
 lt:∀x,T x->x<w
 no:∀x,T x->¬BS I x
section
def dB.on(h:dB w I s pv dv ps)(hb:ci w w'):dB w' I s pv dv ps:=h.aL (S:=λ_=>False) (aG.aZ hb) (λ_ e=>e.elim) id id
def cS.on(h:cS T w I s)(hb:ci w w'):cS T w' I s:=by obtain⟨pv,dv,ps,hc,hr⟩:=h.rows;exact⟨h.at_.on hb,⟨pv,dv,ps,hc.on hb,hr⟩,λx hx=>Qn (h.lt x hx) hb.size,h.no⟩
def cR.new(h:cR w I s)(hb:ci w w')(h1:∀x,T x->w<=x)(h2:∀x,T x->x<w'):cS T w' I s:=by
 obtain⟨pv,dv,ps,hc⟩:=h.cells;have hn:∀x,x<w.heap.size->¬T x:=λx hx e=>absurd (h1 x e) (Nat.not_le.2 hx);refine⟨h.on hb,⟨pv,dv,ps,hc.on hb,Sl.ap hc.ag hn,Sl.ap hc.au hn,λi g c hi=> ?_⟩,h2,λx hx e=>absurd (h1 x hx) (Nat.not_le.2 (h.lt x e))⟩;rcases hc.kz.2 i with⟨e,-⟩|⟨g',c',data,e,-,iV,-,hl⟩
 .rw[hi] at e;cases e
 .rw[hi] at e;cases e;exact λht=>Sl.ap (S:=T) iV.1 hn g 0 128 c Fd rfl ht
def cS.mono(h:cS T w I s)(hT:∀x,T' x->T x):cS T' w I s:=by obtain⟨pv,dv,ps,hc,hr⟩:=h.rows;exact⟨h.at_,⟨pv,dv,ps,hc,hr.pa.mono hT,hr.da.mono hT,λi g c hi e=>hr.fa i g c hi (hT g e)⟩,λx hx=>h.lt x (hT x hx),λx hx=>h.no x (hT x hx)⟩
def cS.more(h:cS T w I s)(hb:ci w w')(h1:∀x,T' x->T x\/w<=x)(h2:∀x,T' x->x<w'):cS T' w' I s:=by
 obtain⟨pv,dv,ps,hc,hr⟩:=h.rows;refine⟨h.at_.on hb,⟨pv,dv,ps,hc.on hb,Sl.apart hc.ag hr.pa h1,Sl.apart hc.au hr.da h1,λi g c hi e=> ?_⟩,h2,λx hx e=>(h1 x hx).elim (λq=>h.no x q e) (λq=>absurd (h.at_.lt x e) (XV.2 q))⟩;obtain q|q:=h1 g e
 .exact hr.fa i g c hi q
 .rcases hc.kz.2 i with⟨e,-⟩|⟨g',c',data,e,-,iV,-,hl⟩
  .rw[hi] at e;cases e
  .rw[hi] at e;cases e;exact Sl.ap (S:=λx=>w<=x) iV.1 (λx hx=>Nat.not_le.2 hx) g 0 128 c Fd rfl q
def cS.aL(h:cS T w I s)(hc:aG T w w'):cS T w' I s:=by
 obtain⟨pv,dv,ps,c,hr⟩:=h.rows;have hn:∀x,BS I x->¬T x:=λx hx e=>h.no x e hx;have cc:dB w' I s pv dv ps:=by
  refine⟨c.own.aL hc (hn _ (.inl rfl)),Sl.more (Sl.aL c.ag hc go hr.pa) hc.size,c.ed,Sl.more (Sl.aL c.au hc go hr.da) hc.size,c.fT,c.jg.aL hc (hn _ (.inr (.inr (.inr (.inr (.inr (.inr (.inr rfl)))))))),⟨c.kz.1,λi=> ?_⟩⟩;obtain e|⟨g,cp,data,h1,h2,h3,h4,h5⟩:=c.kz.2 i
  .exact .inl e
  .exact .inr ⟨g,cp,data,h1,h2,⟨(h3.1.aL hc go (jD (hr.fa i g cp h1))).more hc.size,h3.2⟩,h4,h5⟩
 refine⟨⟨⟨pv,dv,ps,cc⟩,?_,h.at_.fh.aL hc (hn _ (.inr (.inr (.inr (.inl rfl))))) (hn _ (.inr (.inr (.inr (.inr (.inl rfl)))))) (hn _ (.inr (.inr (.inr (.inr (.inr (.inl rfl))))))),h.at_.pick.aL hc (hn _ (.inr (.inr (.inr (.inr (.inr (.inr (.inl rfl)))))))),h.at_.mf,h.at_.ok⟩,⟨pv,dv,ps,cc,hr⟩,λx hx=>Qn (h.lt x hx) hc.size,h.no⟩;exact{h.at_.dM with own:=h.at_.dM.own.aL hc (hn _ (.inr (.inl rfl))),eP:=h.at_.dM.eP.aL hc (hn _ (.inr (.inr (.inl rfl))))}
def cS.set(h:cS T w I s){p:Addr}(hp:T p.block)(u:Va):cS T (w.setCell p u) I s:=h.aL ((aG.refl T w).setCell (λ_=>hp) u)
def cS.putObj(h:cS T w I s){l:Nat}{o:Obj}(hl:w.heap[l]? =some o)(hc:o.isCells=false)(hS:¬BS I l)(o' :Obj):cS T (w.putObj l o') I s:=by
 obtain⟨pv,dv,ps,uf,hr⟩:=h.rows;have q:aG (λx=>x=l) w (w.putObj l o'):=fY _ _ _ _ rfl;have hn:∀x,BS I x->¬(x=l):=λx hx e=>hS (e▸hx);have cz:(w.putObj l o').heap.size=w.heap.size:=World.putObj_size;refine⟨h.at_.putObj hl hc hS o',⟨pv,dv,ps,⟨uf.own.aL q (hn _ (.inl rfl)),?_,uf.ed,?_,uf.fT,uf.jg.aL q (hn _ (.inr (.inr (.inr (.inr (.inr (.inr (.inr rfl)))))))),⟨uf.kz.1,λi=> ?_⟩⟩,hr⟩,λx hx=>by rw[cz];exact h.lt x hx,h.no⟩
 .rw[cz];exact pF uf.ag go Fd hl hc o'
 .rw[cz];exact pF uf.au go Fd hl hc o'
 .refine(uf.kz.2 i).imp id λ⟨g,c,data,h1,h2,h3,h4,h5⟩=>⟨g,c,data,h1,h2,⟨?_,h3.2⟩,h4,h5⟩;rw[cz];exact pF h3.1 go Fd hl hc o'
end
def cR.Vi{w w2:Wo}{I:bF}{s:aX}(h:cR w I s)(c:dB w I s pv dv ps){S:FV}(hS:∀x,S x->x=I.pb\/TS I.tb I.cb I.mb x)(hc:aG S w w1)(hg:w1.grownBy w2 (some I.fb))
  {next:Nat} {DX :List (Option (Nat×Nat))} {fr:List (Option (List Int))}
  (hm:MG Ud w2 I.fb (du (jf DX)) (nS (jf DX))) (hf:df w2 I DX fr):
  dB w2 I {s with t:=t,next:=next,fresh:=fr} pv dv DX :=by
 obtain⟨f1,f2,f3,f4,f5,f6,f7⟩:=h.J5;obtain⟨-,hd⟩:=h.Fp hS hc;have yZ:¬S I.b:=by
  intro hs;obtain⟨n1,n2,n3,n4,n5,n6,n7⟩:=h.uJ;obtain e|e|e|e:=hS _ hs
  .exact n6 e
  .exact n3 e
  .exact n4 e
  .exact n5 e
 have hSB:∀x,S x->BS I x:=λx hx=>IV x (hS x hx);have jY:=aG.dH hg (λx _ e=>(Qr e).symm);have Bb:∀x,x=I.fb->BS I x:=λx e=>zbd;have p1:=Sl.more (Sl.aL c.ag hc go (c.ed.mono hSB)) hc.size;have d1:=Sl.more (Sl.aL c.au hc go (c.fT.mono hSB)) hc.size;exact⟨(c.own.aL hc yZ).aL jY (Xm f7),Sl.more (Sl.aL p1 jY go (c.ed.mono Bb)) jY.size,c.ed,Sl.more (Sl.aL d1 jY go (c.fT.mono Bb)) jY.size,c.fT,hm,hf⟩
def vE(T:FV)(w:Wo)(I:bF)(s:aX)(hT:cS T w I s)(v:Va)(data:Fr)(hd:Bs w w v data)(ha:Ap (BS I) v):
  Calls prog 57 #[I.b,v] w (iF (.tuple #[ac (s.put data).1,ac (s.put data).2.1]) λw' =>cS T w' I (s.put data).2.2/\aG (BS I) w w') :=by
 have h:=hT.at_;have HT_:=aa hT;clear hT;have HM:=aa (nJ w I s h);have HR:=aa (ou w I s h);obtain⟨A,c,rfl,-,-⟩:=hd.1.form;have hn:=h.n0;by_cases e8:s.broken=true
 .have es:s.put data=(0,111,s):=by rw[aX.put,Xo e8]
  have em:s.may=111:=by rw[aX.may,Xo e8]
  rw[em] at HM;rw[es];clear h hd ha hn e8 em es;exact zeX
 .have em:s.may=0:=by rw[aX.may,Xd e8]
  rw[em] at HM;by_cases hl:data.length=128
  .by_cases hr:s.room=0
   .have es:s.put data=(0,90,s):=by rw[aX.put,Xd e8,Xd zdy,Xo hr]
    rw[hr] at HR;rw[es,hl];clear h hd ha hn e8 em es hr hl;go_in;go_wp2_with(first
     |(go_at_call 33;refine PP HM.o ?_)
     |(go_at_call 6;refine PP HR.o ?_))
    go_ret2;exact⟨rfl,HT_.o,aG.refl _ _⟩
   .have es:s.put data=((s.t.take 2 s.next).1,(s.t.take 2 s.next).2.1,{s with t:=(s.t.take 2 s.next).2.2.1,next:=(s.t.take 2 s.next).2.2.2,fresh:=s.fresh.set (s.t.take 2 s.next).1.toNat (some data)}):=(by rw[aX.put,Xd e8,Xd zdy,Xd hr]);have ft:=Xc hr;have HT:=aa (qK w I.pb I.tb I.cb I.mb 2 s.next s.t h.pick h.fh h.ok.n2 h.ok.nl);obtain⟨b,hb,fg⟩:=s.t.zB s.next Mx h.ok.n2;obtain⟨k1,k2,k3,-,-⟩:=s.t.lM s.next h.ok.n2 h.ok.nl;have x2:=h.x2;obtain⟨pv,dv,ps,hc,SD⟩:=HT_.o.rows;have Hrw:=aa SD;clear SD;have Hc:=aa hc;have H:=aa h;have Hd:=aa (show Bs w w (am A 128 c) data by rw[<-hl];exact hd);have Ha:=aa (show Ap (BS I) (am A 128 c) by rw[<-hl];exact ha);rw[es,hl];rw[hb] at HT|-;have Hk:=Nv hl fg k1 k2 k3 hn.2;rw[Xt];generalize (s.t.take 2 s.next).2.1=er at*;generalize (s.t.take 2 s.next).2.2.1=t2 at*;generalize (s.t.take 2 s.next).2.2.2=n2 at*;generalize s.room=rm at*;have Hb:Af (b<4096):=by show b<4096;omega
    clear h hc hd ha hn e8 em es hr hl hb fg k1 k2 k3;go_in;go_upto_region 9 with(first
     |(go_at_call 33;refine PP HM.o ?_)
     |(go_at_call 6;refine PP HR.o ?_)
     |(go_at_call 124;refine HT.o.mono ?_;rintro e W3 ⟨rfl,ht3,Wn,Nn⟩;obtain⟨T3,P3,C3⟩:=qC ht3 Wn Nn;clear ht3 Wn Nn))
    have TL:∀x,(x=I.pb\/TS I.tb I.cb I.mb x)->BS I x:=λx hx=>IV x hx;have jW:¬(I.b=I.pb\/TS I.tb I.cb I.mb I.b):=by
     obtain⟨n1,n2,n3,n4,n5,n6,n7⟩:=H.o.uJ;rintro(e|e|e|e)
     .exact n6 e
     .exact n3 e
     .exact n4 e
     .exact n5 e
    have hf3:¬(I.fb=I.pb\/TS I.tb I.cb I.mb I.fb):=by
     obtain⟨n1,n2,n3,n4,n5,n6,n7⟩:=H.o.J5;rintro(e|e|e|e)
     .exact n6 e
     .exact n3 e
     .exact n4 e
     .exact n5 e
    have c3:=Hc.o.aL C3.o TL jW hf3;have C3b:=aa c3;have x5:=c3.x5;have xC:Bs W3.drew W3.drew.heap.size (am A 128 c) data:=⟨(Hd.p1.aL C3.o go (Ha.o.mono TL)).more C3.o.size,Hd.q1⟩;have HC:=aa (pQ W3.drew W3.drew.heap.size _ data xC go (by rw[Hk.p1];decide));have cz:Af (∀x,BS I x->x<W3):=λx hx=>Qn (H.o.lt x hx) C3.o.size;have HF:Af (∀W,ci W3 W->∀g,W3.heap.size<=g->∀c',Bs W W (sw (some (g,c'))) data->∃w',(Instr.mapUpdate 56 (.map (some I.fb)) (ac b) (el g 0 128 c')).run prog W= .ok () w'/\cS T w' I {s with t:=t2,next:=n2,fresh:=s.fresh.set b (some data)}/\aG (BS I) w w'):=by
     intro W hW g hg c' iV;have rf:=C3b.o.kz.1;have eo:=H.o.ok.fr;have fg:b<s.fresh.length:=eo▸Hk.p2;have MI:=C3b.o.aL (S:=λ_=>False) (aG.aZ hW) (λ_ e=>e.elim) id id;obtain⟨w',hr,hm,uc⟩:=sS MI.jg (by rw[rf,eo];exact Hk.q5) (b:=b) (rf▸fg) g c';have MH:=aG.dH uc (λx _ e=>(Qr e).symm);have Bb:∀x,x=I.fb->BS I x:=λx e=>zbd;have hgS:¬BS I g:=λe=>XV.2 hg (cz.o g e);have tD :=df.put (MI.kz.aL MH Bb) fg (g:=g) (c:=c') (data:=data) ⟨(iV.1.aL MH go (jD (λe=>hgS (Bb _ e)))).more MH.size,iV.2⟩ hgS Hk.p1;refine⟨w',hr,?_,?_⟩
     .have To:Yj {s with t:=t2,next:=n2,fresh:=s.fresh.set b (some data)}:=by
       have ok:=H.o.ok;refine⟨by rw[Hk.p3];exact ok.bl,by rw[Zy,Hk.p3];exact ok.fr,by rw[Hk.p3];exact ok.pg,ok.dg,by rw[Hk.p3];exact ok.rg,Hk.p4,by rw[Hk.p3];exact Hk.p5,ok.sup,ok.kep,ok.slot,λdt Nl=> ?_⟩;obtain h1|h1:=Zz Nl
       .exact ok.fd dt h1
       .cases h1;exact⟨Hk.p1,iV.2⟩
      refine⟨cR.Pf H.o Hc.o (S:=λx=>x=I.pb\/TS I.tb I.cb I.mb x) (λx hx=>hx) (C3.o.trans (aG.aZ hW)) uc (T3.o.on hW) (P3.o.on hW) hm tD To,⟨pv,dv,_,cR.Vi H.o Hc.o (S:=λx=>x=I.pb\/TS I.tb I.cb I.mb x) (λx hx=>hx) (C3.o.trans (aG.aZ hW)) uc hm tD,Hrw.o.pa,Hrw.o.da,λi g1 k1 hi e=> ?_⟩,λx hx=>Qn (HT_.o.lt x hx) (Qh C3.o.size (Qh hW.size MH.size)),HT_.o.no⟩;rw[lh _ _ _ _ (by rw[rf];exact fg)] at hi;split at hi
      .injection hi with hi;injection hi with hi;subst hi;have h1:=HT_.o.lt _ e;have h2:=C3.o.size;omega
      .exact Hrw.o.fa i g1 k1 hi e
     .exact zfh
    clear c3 xC TL jW hf3;go_region_law (first
     |(go_simp;(go_at_call 125);(with_reducible refine HC.o.mono ?_);rintro e W4 ⟨v4,rfl,o4,b4⟩;obtain⟨g4,c4,rfl,og,anc⟩:=Ph o4 Hk.p1;have B4:Af (ci W3 W4):=⟨b4.os,b4.tape,b4.output,b4.size,b4.block⟩;have y5:jp W4 I.b 5 (.map (some I.fb)):=(B4.o.cell (p:=an I.b 5) (cz.o _ (.inl rfl))).trans x5;obtain⟨W5,iq,SV,hC5⟩:=HF.o W4 B4.o g4 og c4 ⟨zbe,Hd.q1⟩;have R5:=aa SV;have K5:=aa hC5;clear SV hC5 o4 b4))
    all_goals
     go_wp2;go_ret2;exact⟨rfl,R5.o,K5.o⟩
  .have es:s.put data=(0,2,s):=(by unfold aX.put;rw[Xd e8,Xo hl]);rw[es];have rf:=Xc Mx;clear h hd ha hn e8 em es hl;exact zeX
def cS.Oz{T:FV}{w:Wo}{I:bF}{s:aX}(h:cS T w I s)(hc:aG (TS I.tb I.cb I.mb) w w1)(ht:bf w1 I.tb I.cb I.mb t)(hl:t.len=s.t.len):cS T w1 I {s with t:=t}:=by obtain⟨pv,dv,ps,c,hr⟩:=h.rows;obtain⟨n1,n2,n3,n4,n5,n6,n7⟩:=h.at_.uJ;obtain⟨f1,f2,f3,f4,f5,f6,f7⟩:=h.at_.J5;have c1:=c.aL hc (λx hx=>OS x hx) (λe=>e.elim n3 (λe=>e.elim n4 n5)) (λe=>e.elim f3 (λe=>e.elim f4 f5));exact⟨h.at_.Oz hc ht hl,⟨pv,dv,ps,⟨c1.own,c1.ag,c1.ed,c1.au,c1.fT,c1.jg,c1.kz⟩,hr⟩,λx hx=>Qn (h.lt x hx) hc.size,h.no⟩
def cS.cut{T:FV}{w:Wo}{I:bF}{s:aX}(hT:cS T w I s)(b:Nat)(hb:b<s.t.len)(ty:Fy):
  ∃w',(Builtin.delete_ #[56,3] ty #[.map (some I.fb),ac b]).run prog w= .ok (.tuple #[]) w'/\cS T w' I {s with fresh:=s.fresh.set b none}/\aG (λx=>x=I.fb) w w' :=by
 have h:=hT.at_;obtain⟨f1,f2,f3,f4,f5,f6,f7⟩:=h.J5;obtain⟨pv,dv,ps,c,SD⟩:=hT.rows;have hn:=h.n0;obtain⟨w',hr,hm,hg⟩:=Gu c.jg b Mx ty;have jY:=aG.dH hg (λx _ e=>(Qr e).symm);have Bb:∀x,x=I.fb->BS I x:=λx e=>zbd;have ok:=h.ok;have hf:=df.cut (c.kz.aL jY Bb) (b:=b) (ok.fr▸hb);have cc:dB w' I {s with fresh:=s.fresh.set b none} pv dv (ps.set b none):=⟨c.own.aL jY (Xm f7),Sl.more (Sl.aL c.ag jY go (c.ed.mono Bb)) jY.size,c.ed,Sl.more (Sl.aL c.au jY go (c.fT.mono Bb)) jY.size,c.fT,hm,hf⟩;have ec:Yj {s with fresh:=s.fresh.set b none}:=by
  refine⟨ok.bl,by rw[Zy];exact ok.fr,ok.pg,ok.dg,ok.rg,ok.n2,ok.nl,ok.sup,ok.kep,ok.slot,λdt Nl=> ?_⟩;obtain h1|h1:=Zz Nl
  .exact ok.fd dt h1
  .cases h1
 refine⟨w',hr,⟨⟨⟨pv,dv,_,cc⟩,
  ⟨h.dM.own.aL jY (Xm f1),h.dM.eP.aL jY (Xm f2),h.dM.ne,h.dM.size,h.dM.byte,h.dM.n0,h.dM.n1⟩,h.fh.aL jY (Xm f3) (Xm f4) (Xm f5),h.pick.aL jY (Xm f6),h.mf,ec⟩,⟨pv,dv,_,cc,SD.pa,SD.da,λi g1 k1 hi e=> ?_⟩,λx hx=>Qn (hT.lt x hx) jY.size,hT.no⟩,jY⟩
 rw[lh _ _ _ _ (by rw[c.kz.1,ok.fr];exact hb)] at hi;split at hi
 .cases hi
 .exact SD.fa i g1 k1 hi e
theorem Aj(T:Nat->Prop)(w:Wo)(I:bF)(s:aX)(hT:cS T w I s)(b:Nat)(e8:s.broken=false):
  Calls prog 199 #[I.b,.int .i64 b,.func (.func 169) #[I.tb] #[]] w λe w' =>e= .returned (.int .i64 (s.count b false).1)/\cS T w' I (s.count b false).2/\aG (BS I) w w' :=by
 have h:=hT.at_;have H:=aa hT;clear hT;have HB:=aa (dI w I s h);obtain⟨pv,dv,x3,x4,hp,hd,dh,oR⟩:=h.abP;obtain⟨Ap,cp,rfl,-,-⟩:=hp.form;obtain⟨Ad,cd,rfl,-,-⟩:=hd.form;have NR:=aa (oF w _ s.ag w hp (by omega) (b:Int));have Tg:=aa (oF w _ s.au w hd (by omega) (b:Int));have x1:=h.x1;have HG:=aa (qH w I.tb I.cb I.mb s.t h.fh b);rw[Xo (by omega),Xt] at HG;have i0:∀m:Int,(m<=b)=(m<=b):=λ_=>rfl
 by_cases c1:b<2
 .have es:s.count b false=(2,s):=by unfold aX.count;rw[e8,Xd (by decide),Xo (.inl c1)]
  rw[es];have sq:(b:Int)<2:=by omega
  clear h hp hd es c1 i0;go_enter func199,ntmps199;go_wp2_with fail;go_ret;exact⟨rfl,H.o,aG.refl _ _⟩
 .have sq:¬(b:Int)<2:=by omega
  by_cases c2:s.t.len<=b
  .have es:s.count b false=(2,s):=by unfold aX.count;rw[e8,Xd (by decide),Xo (.inr (.inl c2))]
   rw[es];have jW:(s.t.len:Int)<=b:=by omega
   generalize s.t.len=n at*;clear h hp hd es c1 c2 i0;go_enter func199,ntmps199;go_wp2_with(go_at_call 20;go_must(refine HB.o.mono ?_);rintro e W2 ⟨rfl,rfl⟩);go_ret;exact⟨rfl,H.o,aG.refl _ _⟩
  .have jW:¬(s.t.len:Int)<=b:=by omega
   have fg:Af (b<s.t.len):=by show b<_;omega
   cases c3:s.ag.contains (b:Int) with
   |true=>
    have es:s.count b false=(2,s):=by unfold aX.count;rw[e8,Xd (by decide),Xo (.inr (.inr (.inl c3)))]
    rw[es];rw[c3] at NR;generalize s.t.len=n at*;clear h hp hd es c1 c2 i0 c3;go_enter func199,ntmps199;go_wp2_with(first
     |(go_at_call 20;go_must(refine HB.o.mono ?_);rintro e W2 ⟨rfl,rfl⟩)
     |(go_at_call 70;go_must(refine NR.o.mono ?_);rintro e W2 ⟨rfl,rfl⟩))
    go_ret;exact⟨rfl,H.o,aG.refl _ _⟩
   |false=>
    rw[c3] at NR;cases c4:s.au.contains (b:Int) with
    |true=>
     have es:s.count b false=(2,s):=by unfold aX.count;rw[e8,Xd (by decide),Xo (.inr (.inr (.inr c4)))]
     rw[es];rw[c4] at Tg;generalize s.t.len=n at*;clear h hp hd es c1 c2 i0 c3 c4;go_enter func199,ntmps199;go_wp2_with(first
      |(go_at_call 20;go_must(refine HB.o.mono ?_);rintro e W2 ⟨rfl,rfl⟩)
      |(go_at_call 70;go_must(first|(refine NR.o.mono ?_)|(refine Tg.o.mono ?_));rintro e W2 ⟨rfl,rfl⟩))
     go_ret;exact⟨rfl,H.o,aG.refl _ _⟩
    |false=>
     rw[c4] at Tg;have Z1:¬(b<2\/s.len<=b\/s.ag.contains (b:Int)\/s.au.contains (b:Int)):=by
      rintro(e|e|e|e)
      .exact c1 e
      .exact c2 e
      .rw[c3] at e;cases e
      .rw[c4] at e;cases e
     by_cases c6:s.t.get b=0
     .have es:s.count b false=(82,s):=by unfold aX.count;rw[e8,Xd (by decide),Xd Z1,Xo c6]
      rw[es];rw[c6] at HG;generalize s.t.len=n at*;clear h hp hd es c1 c2 i0 c3 c4 Z1 c6;go_enter func199,ntmps199;go_wp2_with(first
       |(go_at_call 20;go_must(refine HB.o.mono ?_);rintro e W2 ⟨rfl,rfl⟩)
       |(go_at_call 121;go_must(refine HG.o.mono ?_);rintro e W2 ⟨rfl,rfl⟩)
       |(go_at_call 70;go_must(first|(refine NR.o.mono ?_)|(refine Tg.o.mono ?_));rintro e W2 ⟨rfl,rfl⟩))
      go_ret;exact⟨rfl,H.o,aG.refl _ _⟩
     .have es:s.count b false=((s.t.down b).1,{s with t:=(s.t.down b).2,fresh:=if(s.t.down b).2.get b=0 then s.fresh.set b none else s.fresh}):=by unfold aX.count;rw[e8,Xd (by decide),Xd Z1,Xd c6];rfl
      rw[es];have AV:(s.t.get b==0)=false:=Xc c6;have HD:=aa (sa w I.tb I.cb I.mb s.t h.fh b);have Hl:=aa (s.t.vh b);generalize s.t.get b=gb at*;obtain⟨r,hr⟩:∃r,r=s.t.down b:=⟨_,rfl⟩;rw[<-hr] at HD Hl|-;obtain⟨r1,t2⟩:=r;dsimp only at HD Hl|-;obtain⟨s2,Ey⟩:∃s2,s2={s with t:=t2,fresh:=if t2.get b=0 then s.fresh.set b none else s.fresh}:=⟨_,rfl⟩;rw[<-Ey];have EH:=aa Ey;clear h hp hd es c1 c2 i0 c3 c4 Z1 c6 hr Ey;go_enter func199,ntmps199;go_upto_region 6 with(first
       |(go_at_call 20;go_must(refine HB.o.mono ?_);rintro e W2 ⟨rfl,rfl⟩)
       |(go_at_call 121;go_must(refine HG.o.mono ?_);rintro e W2 ⟨rfl,rfl⟩)
       |(go_at_call 169;go_must(refine HD.o.mono ?_);rintro e W3 ⟨rfl,t3,c3⟩;have T3:=aa t3;have C3:=aa c3;clear t3 c3)
       |(go_at_call 70;go_must(first|(refine NR.o.mono ?_)|(refine Tg.o.mono ?_));rintro e W2 ⟨rfl,rfl⟩))
      have H3:=aa (H.o.Oz C3.o T3.o Hl.o);have y1:=H3.o.at_.x1;have y5:=H3.o.at_.x5;have wM:=aa (qH W3 I.tb I.cb I.mb t2 T3.o b);rw[Xo (by omega),Xt] at wM;by_cases jY:t2.get b=0
      .rw[jY] at wM;have Hf:Af (s2={s with t:=t2,fresh:=s.fresh.set b none}):=by show s2=_;rw[EH.o,Xo jY]
       obtain⟨W4,iq,h4,c4⟩:=H3.o.cut b (by show b<t2.len;rw[Hl.o];exact fg.o) 0;have H4:=aa h4;have C4:=aa c4;have Bu:=aa iq;clear h4 c4 jY HB NR Tg HG HD iq;go_wp2_with(first
        |(go_at_call 121;go_must(refine wM.o.mono ?_);rintro e W2 ⟨rfl,rfl⟩)
        |(refine wl_del Bu.o rfl rfl ?_))
       go_ret;rw[Hf.o];exact⟨rfl,H4.o,(C3.o.mono λx _ e=>OS x e).trans (C4.o.mono λx _ e=>by unfold BS;simp[e])⟩
      .have qa:(t2.get b==0)=false:=Xc jY;have Hf:Af (s2={s with t:=t2}):=by show s2=_;rw[EH.o,Xd jY]
       generalize t2.get b=g2 at qa wM;clear jY HB NR Tg HG HD;go_wp2_with(first
        |(go_at_call 121;go_must(refine wM.o.mono ?_);rintro e W2 ⟨rfl,rfl⟩))
       go_ret;rw[Hf.o];exact⟨rfl,H3.o,(C3.o.mono λx _ e=>OS x e)⟩
def GM(T:FV)(w:Wo)(I:bF)(s:aX)(hT:cS T w I s)(b:Nat)(e8:s.broken=false):
  Calls prog 153 #[I.b,ac b] w (iF (ac (s.count b false).1) λw' =>cS T w' I (s.count b false).2/\aG (BS I) w w') :=by
 have h:=hT.at_;have HM:=aa (nJ w I s h);have em:s.may=0:=zdB
 rw[em] at HM;have x1:=h.x1;have HC:=aa (Aj T w I s hT b e8);clear h hT e8 em;go_in;go_wp2_with(first
  |(go_at_call 33;refine PP HM.o ?_)
  |(go_at_call 199;refine rY HC.o λW3 h3 c3=> ?_;have H3:=aa h3;have C3:=aa c3;clear h3 c3))
 go_ret;exact⟨rfl,H3.o,C3.o⟩
def cS.cM{T:FV}{w:Wo}{I:bF}{s:aX}(h:cS T w I s){i:Nat}(hi:i<8){b:Int}(hb:bX b):
  cS T (w.setCell (an I.b (8+i)) (gc b)) I {s with eO:={s.eO with roots:=s.eO.roots.set i b}}:=by
 obtain⟨n1,n2,n3,n4,n5,n6,n7⟩:=h.at_.uJ;have hc:=kh w I.b (8+i) (gc b);obtain⟨pv,dv,ps,c,hr⟩:=h.rows;have hS:∀x,x=I.b->BS I x:=λx e=> .inl e;refine⟨h.at_.cM hi hb,⟨pv,dv,ps,⟨?_,Sl.more (Sl.aL c.ag hc go (c.ed.mono hS)) hc.size,c.ed,Sl.more (Sl.aL c.au hc go (c.fT.mono hS)) hc.size,c.fT,c.jg.aL hc (Xm n7),c.kz.aL hc hS⟩,hr⟩,λx hx=>Qn (h.lt x hx) hc.size,h.no⟩;have:=c.own.set (8+i) (gc b);rw[vZ h.at_.ok.sup i b hi] at this;exact this
def w9(T:FV)(w:Wo)(I:bF)(s:aX)(hT:cS T w I s)(e8:s.broken=false)(i:Nat)(h2:2<=i)(hi:i<8)(b:Int)(hb:b=0\/2<=b/\b<s.t.len):
  Calls prog 59 #[I.b,ac i,ac b] w (iF (ac 0) λw' =>cS T w' I (s.cM i b).2/\aG (BS I) w w') :=by
 have h:=hT.at_;have HM:=aa (nJ w I s h);have em:s.may=0:=zdB;rw[em] at HM;have HB:=aa (dI w I s h);have hn:=h.n0;have TK:bX b:=by unfold bX;omega
 have es:(s.cM i b).2={s with eO:={s.eO with roots:=s.eO.roots.set i b}}:=zaX;have HS:=aa (hT.cM hi TK);have Hes:=aa es;have x:=h.root hi;obtain⟨pv,dv,ps,c⟩:=h.cells;have xf:=c.own.free (8+i);have hw:IntKind.u32.wrap b=b:=zao;have i0:¬(i:Int)<2:=Mx;have i1:(i:Int)<8:=Mx;have i2:(0:Int)<=i:=Mx;generalize s.root i=r at*;generalize s.t.len=n at*;obtain rfl|⟨yZ,sq⟩:=hb
 .clear h hT c es em hn h2 hi TK hw;go_in;go_wp2_with(first
   |(go_at_call 33;refine PP HM.o ?_)
   |(go_at_call 20;refine PP HB.o ?_))
  exact zee
 .have b0:(b==0)=false:=Xc Mx;have b1:¬b<2:=by omega
  clear h hT c es em hn h2 hi TK;go_in;go_wp2_with(first
   |(go_at_call 33;refine PP HM.o ?_)
   |(go_at_call 20;refine PP HB.o ?_))
  exact zee
variable{st:Int -> Option ay}
structure MR where
 d:Int
 x:Int
 a:Option Addr
 n:Nat
 c:Nat
def shY(y:MR):Va:= .agg #[.int .u8 y.d,.int .u32 y.x,.slice y.a y.n y.c]
def UO(o:Option Nat):DataW Unit:=match o with
 |none=> .nil
 |some k=> .lit (.int .u64 k)
def UP(a:GB):DataW Unit:=match a with
 |none=> .nil
 |some p=> .agg [.lit (.int .u64 p.block),.lit (.int .u64 p.off),UO p.spot]
def J9(y:MR):DataW Unit:= .agg [.lit (.int .u8 y.d),.lit (.int .u32 y.x),UP y.a,.lit (.int .u64 y.n),.lit (.int .u64 y.c)]
def RY(v:Va):Option (DataW Unit×List MemPlace):=match v with
 | .agg cs=>match cs.toList with
  |[.int .u8 d,.int .u32 x,.slice a n c]=>some (J9 ⟨d,x,a,n,c⟩,[])
  |_=>none
 |_=>none
def Sd{o o' :Option Nat}(h:UO o=UO o'):o=o' :=by
 unfold UO at h;cases o<;>cases o' <;>simp at h
 .rfl
 .exact XF some Mx
def Se{a a' :GB}(h:UP a=UP a'):a=a' :=by
 unfold UP at h;cases a with
 |none=>cases a' with
  |none=>rfl
  |some q=>simp at h
 |some p=>cases a' with
  |none=>simp at h
  |some q=>
   simp at h;obtain⟨h1,h2,h3⟩:=h;have h4:=Sd h3;cases p;cases q;simp_all;omega
def Sc(y y' :MR)(h:J9 y=J9 y'):y=y' :=by unfold J9 at h;simp at h;obtain⟨h1,h2,h3,h4,h5⟩:=h;have h6:=Se h3;cases y;cases y';simp_all;omega
def acB(v:Va)(z:DataW Unit×List MemPlace)(h:RY v=some z):∃y,v=shY y/\z=(J9 y,[]):=by
 unfold RY at h;split at h
 .rename_i cs
  split at h
  .rename_i d x a n c iH
   cases h;refine⟨⟨d,x,a,n,c⟩,?_,rfl⟩;unfold shY;congr 1;exact Qev iH
  .cases h
 .cases h
def Ub:MK Int MR where
 mt:=287
 kt:=3
 vt:=79
 xz:=underlying287
 keyed:=Qfq underlying3
 kv:= .int .i64
 kl:= .int .i64
 qY:=λx=>(Lit.int .i64 x).wf=true
 ir:=λx h=>Qeo underlying3 h
 Bn:=λx y h=>EQ
 sB:=λv l h=>by exact zei
 vv:=shY
 Ix:=J9
 R:=RY
 MZ:=λ_=>rfl
 Bm:=acB
 zo:=Sc
 zero:=⟨0,0,none,0,0⟩
 hz:=λw=>by kernel_rfl
def MQ(B:Nat)(W:Wo)(f:Int->Option MR)(st:Int->Option ay):Prop:=
 ∀x,(f x=none/\st x=none)\/∃y s,f x=some y/\st x=some s/\y.d=s.depth/\y.x=s.next/\Es W B (.slice y.a y.n y.c) s.es/\pC s
def MQ.below{W' :Wo}{f:Int->Option MR}(h:MQ B W f st)(hb:Below B W W'):MQ B W' f st:=λx=>by
 obtain h1|⟨y,s,h1,h2,h3,h4,h5,h6⟩:=h x
 .exact Or.inl h1
 .exact Or.inr ⟨y,s,h1,h2,h3,h4,h5.below hb,h6⟩
def MQ.put{f:Int->Option MR}(h:MQ B W f st)(b:Int)(y:MR)(s:ay)(h1:y.d=s.depth)(h2:y.x=s.next)(h3:Es W B (am y.a y.n y.c) s.es)(h4:pC s):MQ B W (eM f b y) (eM st b s):=λx=>by
 unfold eM;by_cases hx:x=b
 .rw[Xo hx,Xo hx];exact Or.inr ⟨y,s,rfl,rfl,h1,h2,h3,h4⟩
 .rw[Xd hx,Xd hx];exact h x
def MQ.cut{f:Int->Option MR}(h:MQ B W f st)(b:Int):MQ B W (mX f b) (mX st b):=λx=>by
 unfold mX;by_cases hx:x=b
 .rw[Xo hx,Xo hx];exact Or.inl ⟨rfl,rfl⟩
 .rw[Xd hx,Xd hx];exact h x
variable{i j:Nat}{s:ay}{m:Int -> Option ay}{p:Int × ay}
def iK(c:ak):List (Int×ay):=c.blocks.zip c.ah
def stL(L:List (Int×ay)):Int->Option ay:=L.foldl (λm p=>eM m p.1 p.2) (λ_=>none)
def PH(L:List (Int×ay))(p:Int×ay):stL (L++[p])=eM (stL L) p.1 p.2:=by rw[stL,Qbv];rfl
def Ca{b:Int}(hb:c.blocks[j]? =some b)(hs:c.ah[j]? =some s):(iK c)[j]? =some (b,s):=by rw[iK,Qip];exact⟨hb,hs⟩
def BZ(h:c.blocks.length=c.ah.length):(iK c).length=c.blocks.length:=by unfold iK;simp[h]
def pN(c:ak):∀(l:List (Int×ay)) (i:Nat),foldI (bV c) i l none=none
 |[],_=>rfl
 |_::r,i=>pN c r (i+1)
def js(c:ak)(l:List (Int×ay))(i:Nat)(st:Option (Int->Option ay))(h:foldI (bV c) 0 (l.take i) st=none):foldI (bV c) 0 l st=none:=by
 conv=>lhs;rw[<-XW i l]
 rw[mg,h,pN]
def sQ:∀(l:List ak),l.foldl IK none=none
 |[]=>rfl
 |c::r=>by rw[Qak];have:IK none c=none:=pN c _ 0;rw[this,sQ r]
def Gk(gone ao:List ak)(k:Nat)(c:ak)(h:ao[k]? =some c):mu gone (ao.take (k+1))=IK (mu gone (ao.take k)) c:=by rw[mu,aA ao k c h,Qbv];rfl
def gV(gone ao:List ak)(k:Nat)(h:mu gone (ao.take k)=none):mu gone ao=none:=by
 unfold mu at h|-
 conv=>lhs;rw[<-XW k ao]
 rw[Qbv,h,sQ]
def qU(h0:¬p.1=0)(h:m p.1=none):bV c (some m) i p=none:=by unfold bV;simp only[Xd h0,h]
def km(h0:¬p.1=0)(h:m p.1=some s)(hn:¬(s=p.2/\s.next=c.blocks.getD (i+1) 0)):bV c (some m) i p=none:=by unfold bV;simp only[Xd h0,h,Xd hn]
def vK(h0:¬p.1=0)(h:m p.1=some s)(hn:s=p.2/\s.next=c.blocks.getD (i+1) 0):bV c (some m) i p=some (mX m p.1):=by unfold bV;simp only[Xd h0,h,Xo hn]
def LH{l:Fr}(h:l.length<=i):l.getD i 0=0:=by rw[Qe,QQ h];rfl
structure ru(c:ak):Prop where
 len:c.blocks.length=c.ah.length
 y7:c.blocks.length<=4096
 pos:∀x∈c.blocks,0<=x/\x<4096
structure Kp1(w:Wo)(mb:Nat)(L:List (Int×ay))(q:Nat)(wr:Wo):Prop where
 ex:∃f sz,MG Ub wr mb f sz/\MQ w wr f (stL L)/\sz<=q
 low:Below w w wr
 wG:w<=mb
structure WO(w:Wo)(mb:Nat)(st:Option (Int->Option ay))(wr:Wo):Prop where
 ex:∃f sz m,MG Ub wr mb f sz/\MQ w wr f m/\st=some m
 low:Below w w wr
 wG:w<=mb
def ahI{x:Prop}[Decidable x]{sz q:Nat}(h:sz<=q):(if x then sz else sz+1)<=q+1:=by split<;>omega
def Fo{w:Wo}{S:FV}{A1 A2:GB}{m1 c1 m2 c2:Nat}(h:jw w S (.agg #[ac c.ax,ac c.depth,am A1 m1 c1,am A2 m2 c2]) c)(hl:c.blocks.length=c.ah.length)(hj:j<c.blocks.length):
  m1=c.blocks.length/\m2=c.blocks.length/\∃(b1 o1 b2 o2:Nat) (sh:ay) (Ae:GB) (ne ce:Nat),A1=some (an b1 o1)/\A2=some (an b2 o2)/\b1<w/\b2<w/\c.ah[j]? =some sh/\(∀i,i<c.blocks.length->jp w b1 (o1+i) (ac (c.blocks.getD i 0)))/\
   w.cell? (an b2 (o2+j*3))=some (io sh.depth)/\jp w b2 (o2+j*3+1) (gc sh.next)/\jp w b2 (o2+j*3+2) (am Ae ne ce)/\Es w w (am Ae ne ce) sh.es/\pC sh:=by
 obtain⟨bv,sv,ps,he,g1,-,g2,fc⟩:=h.ex;obtain⟨rfl,rfl⟩: am A1 m1 c1=bv/\ am A2 m2 c2=sv:=zaR;have dh:ps.length=c.blocks.length:=by rw[hl,<-fc,Qq]
 obtain⟨b1,o1,cc1,e1,-,-,l1,q1⟩:=g1.cells Mx;obtain⟨p,hp⟩:∃p,ps[j]? =some p:=⟨_,Qf Mx⟩;obtain⟨b2,o2,cc2,e2,l2,q2,q3,q4⟩:=g2.s.cells hp;have eE:=g2.s.es p (Qi hp);obtain⟨Ae,ce,hU,-,-⟩:=eE.1.1.form;rw[hU] at q4 eE
 cases e1
 cases e2;refine⟨rfl,dh,b1,o1,b2,o2,p.1,Ae,_,ce,rfl,rfl,l1,l2,?_,q1,q2,q3,q4,eE.1,eE.2⟩;rw[<-fc,Qt,hp];rfl
def Lv(w:Wo)(S:FV)(gv cv:Va)(gone ao:List ak)(hg:mI w S gv gone)(hc:mI w S cv ao)(AU:gone.length<=20)(oJ:ao.length<=10000)(JM:∀c∈gone,ru c)(AW:∀c∈ao,ru c):
  Calls prog 144 #[gv,cv] w (iF (.bool (mr gone ao)) λw' =>ci w w') :=by
 obtain⟨Ag,cg,rfl⟩:=hg.form;obtain⟨Ac,cc,rfl⟩:=hc.form;have⟨G,hG⟩:=eX gone.length;have⟨C,hC⟩:=eX ao.length;have⟨T,hT⟩:=eX (mr gone ao);rw[<-hG,<-hC,<-hT];have HN:=hI7 hG hC (by omega:G<=20) (by omega:C<=10000) hT JM AW;have xA:= @run_makeMap prog;clear hG hC hT AU oJ JM AW;change Af _ at hg hc;go_in;go_upto_region 2 with fail;have⟨W1,aW⟩:=eX (w.alloc (.map #[] 0));have⟨mb,tB⟩:=eX w.heap.size;have M1:MG Ub W1 mb (λ_=>none) 0:=by rw[aW,tB];exact MG.made w
 have b1:ci w W1:=zab;rw[<-aW,<-tB];have K0:Af (Kp1 w mb [] 0 W1):=⟨⟨_,0,M1,λx=>Or.inl ⟨rfl,rfl⟩,go⟩,b1,by rw[tB];exact go⟩;clear aW tB M1 b1 xA;go_wp2_with fail;go_loopw [20] (λiv wr=>∃k:Nat,iv= ac k/\Af (k<=G/\Kp1 w mb ((gone.take k).flatMap iK) (4096*k) wr)) (λiv _=>G - (intOf iv).toNat)
 .exact⟨0,rfl,lm,K0.o⟩
 .obtain⟨k,rfl,HR⟩:=hrel;by_cases hk:k<G
  .obtain⟨c,jV⟩:∃c,gone[k]? =some c:=⟨_,Qf zcQ⟩;obtain⟨b,o,rr,A1,A2,m1,c1,m2,c2,hv,bO,z0,z1,z2,z3,kG⟩:=hg.o.lG jV;obtain rfl:Ag=some (an b o):=(by injection hv);have tg:=HN.p6 c (Qi jV);have aU:=HR.q1.low;have y0:=(aU.cell (p:=an b (o+k*4)) bO).trans z0;have y1:=(aU.cell (p:=an b (o+k*4+1)) bO).trans z1;have y2:=(aU.cell (p:=an b (o+k*4+2)) bO).trans z2;have y3:=(aU.cell (p:=an b (o+k*4+3)) bO).trans z3;have⟨fr,eo⟩:=eX c.ax;have⟨dp,eK⟩:=eX c.depth;rw[<-eo] at y0;rw[<-eK] at y1;have Az:m1=c.blocks.length:=(by obtain⟨bv,sv,ps,he,g1,-,-,-⟩:=kG.ex;obtain⟨rfl,rfl⟩: am A1 m1 c1=bv/\ am A2 m2 c2=sv:=zaR;obtain⟨A,cx,hv,-,-⟩:=g1.form;injection hv);obtain⟨W3,cD,X3,b3⟩:=nW wr [ac fr,ac dp,am A1 m1 c1,am A2 m2 c2] 72;have⟨cb,iI⟩:=eX wr.heap.size;rw[<-iI] at X3;have x2:=X3.j2;obtain⟨f,sz,hM,Nq,cz⟩:=HR.q1.ex;have K3:=iJ (⟨⟨f,sz,hM.on b3,by rw[Zq,Zi];exact Nq.below (b3.mono aU.size),cz⟩,Pd aU b3,HR.q1.wG⟩:Kp1 w mb ((gone.take k).flatMap iK++(iK c).take 0) (4096*k+0) W3) X3 (by rw[iI];exact XO hM.lt:cb≠mb);have HW:=dK cD.symm iI.symm;have HX:=Ba jV hk tg Az (by rw[iI];exact aU.size:w.heap.size<=cb);obtain⟨u1,u2,u3⟩:=bR hk (Qh HN.p3 (show 20<=100000 by decide)) Fd;clear jV hv bO z0 z1 z2 z3 tg aU eo eK Az cD X3 b3 iI hM Nq cz HR hk;change Af _ at kG u1;go_upto_region 5 with fail;rw[HW.p1,HW.q1];clear y0 y1 y2 y3;go_wp2_with fail;clear x2;go_loopw [27] (λjv wr=>∃j:Nat,jv= ac j/\Af (j<=m1/\Kp1 w mb ((gone.take k).flatMap iK++(iK c).take j) (4096*k+j) wr/\aq wr cb 72 [ac fr,ac dp,am A1 m1 c1,am A2 m2 c2])) (λjv _=>m1 - (intOf jv).toNat)
   .exact⟨0,rfl,lm,K3.p1,K3.p2⟩
   .obtain⟨j,rfl,HI⟩:=hrel;by_cases hj:j<m1
    .have SM:j<c.blocks.length:=(by rw[<-HX.p4];exact hj);have aU:=HI.p2.low;obtain⟨e1,e2,b1,o1,b2,o2,sh,Ae,ne,ce,rfl,rfl,l1,l2,ta,q1,q2,q3,q4,q5,q6⟩:=Fo kG.o HX.p3.len SM;have⟨x,hx⟩:=eX (c.blocks.getD j 0);have oP:c.blocks[j]? =some x:=(by rw[hx,Qe,Qf SM];rfl);have y1:=(aU.cell (p:=an b1 (o1+j)) l1).trans (q1 j SM);rw[<-hx] at y1;replace q2:=(aU.cell (p:=an b2 (o2+j*3)) l2).trans q2;replace q3:=(aU.cell (p:=an b2 (o2+j*3+1)) l2).trans q3;replace q4:=(aU.cell (p:=an b2 (o2+j*3+2)) l2).trans q4;have wA:=HX.p3.pos x (Qi oP);have⟨d,hd⟩:=eX sh.depth;have⟨nx,fu⟩:=eX sh.next;rw[<-hd] at q2;rw[<-fu] at q3;have c3:wr.cell? (an cb 3)=some (el b2 o2 m2 c2):=HI.q2.cell rfl;have e3:=e2.trans e1.symm;have i0:(0:Int)<=j:=Xh j;have i1:(j:Int)<m1:=Mx;have i2:(j:Int)<m2:=Mx;obtain⟨f,sz,hM,Nq,cz⟩:=HI.p2.ex;have AP:sz<=100000:=(by have h1:=HX.p3.y7;have h2:=HN.p3;have h3:=HX.p2;omega);obtain⟨W8,Yz,TN,TD⟩:=hM.store AP (show Ub.qY x from mo Mx) ⟨d,nx,Ae,ne,ce⟩;have iq:(Instr.mapUpdate 287 (.map (some mb)) (ac x) (.agg #[io d,gc nx,am Ae ne ce])).run prog wr= .ok () W8:=Yz;have HS8:Af (Kp1 w mb ((gone.take k).flatMap iK++(iK c).take (j+1)) (4096*k+(j+1)) W8/\aq W8 cb 72 [ac fr,ac dp,el b1 o1 m1 c1,el b2 o2 m2 c2]):=by
      have hold:=HI.p2.wG;have b8:Below w wr W8:=(Xj w wr).grown TD aU.size (λg e=>by rw[<-Qr e];exact hold);refine⟨⟨⟨_,_,TN,?_,?_⟩,aU.trans b8,hold⟩,HI.q2.grown TD (λe=>K3.q2 (Qr e))⟩
      .rw[aA _ j _ (Ca oP ta),<-QY,PH];exact(Nq.below b8).put x ⟨d,nx,Ae,ne,ce⟩ sh hd fu ((q5.below aU).below b8) q6
      .have:=ahI (x:=(f x).isSome=true) cz;rw[XB] at this;exact this
     have HJ:Af (c.blocks[j]? =some x/\c.ah[j]? =some sh/\sz<=4096*k+j/\sz<=100000/\Ub.qY x/\d=sh.depth/\nx=sh.next/\j<m1):=⟨oP,ta,cz,AP,mo Mx,hd,fu,hj⟩;have qg:=aa HI.o;obtain⟨u4,u5,u6⟩:=bR hj (show m1<=4096 by rw[HX.p4];exact HX.p3.y7) Fd;have Hu4:=aa u4;clear e1 e2 l1 l2 ta q1 q5 q6 hx oP wA hd fu e3 hM Nq cz AP HI hj SM u4 aU Yz TN TD;go_wp2_with fail;exact⟨⟨j+1,by first|rfl|(rw[Hu4.o];rfl),HJ.q7,HS8.p1,HS8.q1⟩,by first|exact al HJ.q7|(rw[Hu4.o];exact al HJ.q7)⟩
    .have JK:=QE HI.p1 (QC hj);have HE:Af (Kp1 w mb ((gone.take (k+1)).flatMap iK) (4096*(k+1)) wr):=by
      have h1:=HI.p2;rw[JK,Qj (l:=iK c) zcT] at h1;obtain⟨f,sz,g1,g2,g3⟩:=h1.ex;refine⟨⟨f,sz,g1,?_,?_⟩,h1.low,h1.wG⟩
      .rw[aA gone k c HX.p1,QP,Qan];exact g2
      .have:=HX.p3.y7;have:=HX.p4;omega
     exact zfo
  .have Wu:=QE HR.p1 (QC hk);have hK:=HR.q1;rw[Wu,Qj zdi] at hK;have HK:=aa hK;subst Wu;clear HR hk hK K0;go_wp2_with fail;have L0:Af (WO w mb (mu gone (ao.take 0)) wr):=(by obtain⟨f,sz,g1,g2,-⟩:=HK.o.ex;exact⟨⟨f,sz,_,g1,g2,rfl⟩,HK.o.low,HK.o.wG⟩);clear HK hg;go_loopw [43] (λiv wr=>∃k:Nat,iv= ac k/\Af (k<=C/\WO w mb (mu gone (ao.take k)) wr)) (λiv _=>C - (intOf iv).toNat)
   .exact⟨0,rfl,lm,L0.o⟩
   .obtain⟨k,rfl,HR⟩:=hrel;by_cases hk:k<C
    .obtain⟨c,jV⟩:∃c,ao[k]? =some c:=⟨_,Qf zcR⟩;obtain⟨b,o,rr,A1,A2,m1,c1,m2,c2,hv,bO,z0,z1,z2,z3,kG⟩:=hc.o.lG jV;obtain rfl:Ac=some (an b o):=(by injection hv);have tg:=HN.q6 c (Qi jV);have aU:=HR.q1.low;have y0:=(aU.cell (p:=an b (o+k*4)) bO).trans z0;have y1:=(aU.cell (p:=an b (o+k*4+1)) bO).trans z1;have y2:=(aU.cell (p:=an b (o+k*4+2)) bO).trans z2;have y3:=(aU.cell (p:=an b (o+k*4+3)) bO).trans z3;have⟨fr,eo⟩:=eX c.ax;have⟨dp,eK⟩:=eX c.depth;rw[<-eo] at y0;rw[<-eK] at y1;have Az:m1=c.blocks.length:=(by obtain⟨bv,sv,ps,he,g1,-,-,-⟩:=kG.ex;obtain⟨rfl,rfl⟩: am A1 m1 c1=bv/\ am A2 m2 c2=sv:=zaR;obtain⟨A,cx,hv,-,-⟩:=g1.form;injection hv);obtain⟨W3,cD,X3,b3⟩:=nW wr [ac fr,ac dp,am A1 m1 c1,am A2 m2 c2] 72;have⟨cb,iI⟩:=eX wr.heap.size;rw[<-iI] at X3;have x2:=X3.j2;obtain⟨f,sz,m0,hM,Nq,xB⟩:=HR.q1.ex;have K3:=iJ (⟨⟨f,sz,m0,hM.on b3,Nq.below (b3.mono aU.size),rfl⟩,Pd aU b3,HR.q1.wG⟩:WO w mb (foldI (bV c) 0 ((iK c).take 0) (some m0)) W3) X3 (by rw[iI];exact XO hM.lt:cb≠mb);have HW:=dK cD.symm iI.symm;have HX:=Nv jV hk tg Az (by rw[iI];exact aU.size:w.heap.size<=cb) xB;obtain⟨u1,u2,u3⟩:=bR hk (Qh HN.p4 (show 10000<=100000 by decide)) Fd;have HQ:Af (∀st,foldI (bV c) 0 (iK c) (some m0)=st->mu gone (ao.take (k+1))=st):=λst cO=>(by rw[Gk gone ao k c HX.p1,HX.q5];exact cO);clear jV hv bO z0 z1 z2 z3 tg aU eo eK Az cD X3 b3 iI hM Nq xB HR hk;change Af _ at kG u1;go_upto_region 14 with fail;rw[HW.p1,HW.q1];clear y0 y1 y2 y3;go_wp2_with fail;clear x2;go_loopw [50] (λjv wr=>∃j:Nat,jv= ac j/\Af (j<=m1/\WO w mb (foldI (bV c) 0 ((iK c).take j) (some m0)) wr/\aq wr cb 72 [ac fr,ac dp,am A1 m1 c1,am A2 m2 c2])) (λjv _=>m1 - (intOf jv).toNat)
     .exact⟨0,rfl,lm,K3.p1,K3.p2⟩
     .obtain⟨j,rfl,HI⟩:=hrel;by_cases hj:j<m1
      .have SM:j<c.blocks.length:=(by rw[<-HX.p4];exact hj);have aU:=HI.p2.low;obtain⟨e1,e2,b1,o1,b2,o2,sh,Ae,ne,ce,rfl,rfl,l1,l2,ta,q1,q2,q3,q4,q5,q6⟩:=Fo kG.o HX.p3.len SM;have⟨x,hx⟩:=eX (c.blocks.getD j 0);have oP:c.blocks[j]? =some x:=(by rw[hx,Qe,Qf SM];rfl);have y1:=(aU.cell (p:=an b1 (o1+j)) l1).trans (q1 j SM);rw[<-hx] at y1;have wA:=HX.p3.pos x (Qi oP);have UT:Af (∀m',foldI (bV c) 0 ((iK c).take j) (some m0)=some m'->foldI (bV c) 0 ((iK c).take (j+1)) (some m0)=bV c (some m') j (x,sh)):=λm' hm' =>(by rw[lW _ _ _ _ (Ca oP ta),hm']);have i0:=Xh j;have i1:(j:Int)<m1:=Mx;obtain⟨u4,u5,u6⟩:=bR hj (show m1<=4096 by rw[HX.p4];exact HX.p3.y7) Fd;have Hu4:=aa u4;by_cases gd:x=0
       .have HE:Af (WO w mb (foldI (bV c) 0 ((iK c).take (j+1)) (some m0)) wr/\aq wr cb 72 [ac fr,ac dp,el b1 o1 m1 c1,el b2 o2 m2 c2]/\j<m1):=(by obtain⟨f,sz,m',g1,g2,g3⟩:=HI.p2.ex;refine⟨⟨⟨f,sz,m',g1,g2,?_⟩,aU,HI.p2.wG⟩,HI.q2,hj⟩;rw[UT.o m' g3];unfold bV;simp[gd]);rw[gd] at y1;clear SM aU e1 e2 l1 l2 ta q1 q2 q3 q4 q5 q6 hx oP wA HI hj u4 UT;go_wp2_with fail;exact⟨⟨j+1,by first|rfl|(rw[Hu4.o];rfl),HE.q2,HE.p1,HE.p2⟩,by first|exact al HE.q2|(rw[Hu4.o];exact al HE.q2)⟩
       .obtain⟨f,sz,m',hM,Nq,hfo⟩:=HI.p2.ex;have hl8:=hM.look (x:=x) (mo Mx);obtain⟨yv,hyv⟩:∃y,y=(f x).getD Ub.zero:=⟨_,rfl⟩;obtain⟨tb,pS⟩:∃t,t=(f x).isSome:=⟨_,rfl⟩;rw[<-hyv,<-pS] at hl8;obtain⟨yd,yx,ya,yn,yc⟩:=yv;have hl:(Instr.lookup 287 (.map (some mb)) (ac x) true).run prog wr= .ok (.tuple #[.agg #[io yd,gc yx,am ya yn yc],.bool tb]) wr:=hl8;obtain⟨d,hd⟩:∃y,y=sh.depth:=⟨_,rfl⟩;obtain⟨nx,fu⟩:∃y,y=sh.next:=⟨_,rfl⟩;rw[<-hd] at q2;rw[<-fu] at q3;obtain⟨W5,j6⟩:∃y,y=wr.alloc (.cells #[io yd,gc yx,am ya yn yc] 79):=⟨_,rfl⟩;have X5:aq W5 wr 79 [io yd,gc yx,am ya yn yc]:=(by rw[j6];exact ar wr [_,_,_] _);have b5:ci wr W5:=(by rw[j6];exact aF _ _);obtain⟨sb,jq⟩:∃y,y=wr.heap.size:=⟨_,rfl⟩;rw[<-jq] at X5;have ER:=Pd aU b5;have zb:Af (wr.alloc (.cells #[io yd,gc yx,am ya yn yc] 79)=W5/\wr.heap.size=sb):=⟨j6.symm,jq.symm⟩;obtain⟨nv,Tz⟩:∃y,y=c.blocks.getD (j+1) 0:=⟨_,rfl⟩;have e3:m2=m1:=e2.trans e1.symm;have C5:=HI.q2.on b5;have c52:W5.cell? (an cb 2)=some (el b1 o1 m1 c1):=C5.cell rfl;have kL:Af (MG Ub W5 mb f sz/\MQ w W5 f m'/\ci w W5/\aq W5 cb 72 [ac fr,ac dp,el b1 o1 m1 c1,el b2 o2 m2 c2]/\w.heap.size<=mb/\sb≠mb/\cb≠mb):=⟨hM.on b5,Nq.below (b5.mono aU.size),ER,C5,HI.p2.wG,by rw[jq];exact XO hM.lt,K3.q2⟩;have HJ:Af (j<m1/\foldI (bV c) 0 ((iK c).take (j+1)) (some m0)=bV c (some m') j (x,sh)/\nv=c.blocks.getD (j+1) 0/\d=sh.depth/\nx=sh.next/\pC sh/\(⟨yd,yx,ya,yn,yc⟩:MR)=(f x).getD Ub.zero/\tb=(f x).isSome/\Ub.qY x):=⟨hj,UT.o m' hfo,Tz,hd,fu,q6,hyv,pS,mo Mx⟩;have X5' :=X5;have wN:Af (Es W5 w (am Ae ne ce) sh.es/\b2<w.heap.size/\m2=m1/\W5.cell? (an b2 (o2+j*3))=some (io d)/\W5.cell? (an b2 (o2+j*3+1))=some (gc nx)/\W5.cell? (an b2 (o2+j*3+2))=some (am Ae ne ce)):=⟨q5.below ER,l2,e3,(ER.cell (p:=an b2 (o2+j*3)) l2).trans q2,(ER.cell (p:=an b2 (o2+j*3+1)) l2).trans q3,(ER.cell (p:=an b2 (o2+j*3+2)) l2).trans q4⟩;have nx0:j+1<m1->W5.cell? (an b1 (o1+(j+1)))=some (ac nv):=λh=>(by rw[Tz];exact(ER.cell (p:=an b1 (o1+(j+1))) l1).trans (q1 (j+1) (by rw[<-HX.p4];exact h)));have nx1:¬j+1<m1->nv=0:=λh=>Tz.trans (LH (HX.p4▸QC h));have HNx:Af ((j+1<m1->W5.cell? (an b1 (o1+(j+1)))=some (ac nv))/\(¬j+1<m1->nv=0)):=⟨nx0,nx1⟩;have w4:wrap64 ((j:Int)+1)=(j:Int)+1:=u4;clear SM aU e1 e2 l1 l2 ta q1 q2 q3 q4 q5 q6 hx oP wA HI hj u4 UT hM Nq hfo hl8 hyv pS hd fu j6 X5 b5 jq ER Tz e3 C5 nx0 nx1;go_upto_region 19 with fail;rw[zb.p1,zb.q1];clear hl y1;have s0:=X5'.j0;obtain⟨-,s1,s2⟩:=ra X5';have r0:=cell_regrown s0;have r1:=cell_regrown s1;have r2:=cell_regrown s2;have r3:=cell_regrown (kL.p4.j3);have r4:=cell_regrown wN.p4;have r5:=cell_regrown wN.p5;have r6:=cell_regrown wN.q5;have jm2:(j:Int)<m2:=(by rw[wN.p3];exact i1);clear s0 s1 s2;by_cases tC:j+1<m1
        .have z5:=HNx.p1 tC;have z6:(j:Int)+1<m1:=(by omega);have z7:(0:Int)<=(j:Int)+1:=Mx;clear tC;go_upto_region 22 with fail;clear z5 z6 z7 c52;rcases kL.p2 x with⟨hf,hm⟩|⟨y,s,hf,hm,Zo,JD,eE,ec⟩
         .have pS:tb=false:=(by rw[HJ.p8,hf];rfl);subst pS;have HT:Af (T=false):=VE;clear hm hf;refine wp_region_quiet_below KJ KJ ?_;(repeat(go_big_quiet_step (fail)));refine Qdp ?_;intro _ s9;obtain⟨⟨dq,mj⟩,iM⟩:=s9;subst iM;have b6:=below_regrown W5 dq mj;generalize Sort.grow (redrawn W5 dq) mj=W6 at*;have B6:=aa b6;clear b6;go_wp2_with fail;(all_goals(try rw[Qv]));(all_goals go_ret);all_goals exact⟨IT,Pd kL.p3 B6.o⟩
         .have pS:tb=true:=(by rw[HJ.p8,hf];rfl);subst pS;have hye:(⟨yd,yx,ya,yn,yc⟩:MR)=y:=(by rw[HJ.p7,hf];rfl);subst hye;obtain⟨R,hR⟩:∃R,R=decide (s=sh):=⟨_,rfl⟩;have HS:Af (∀W,ci W5 W->Calls prog 196 #[.agg #[io yd,gc yx,am ya yn yc],.agg #[io d,gc nx,am Ae ne ce]] W (iF (.bool R) λw' =>ci W w')):=λW hW=>AT;have cA:∀dr os,Calls prog 196 #[.agg #[io yd,gc yx,am ya yn yc],.agg #[io d,gc nx,am Ae ne ce]] (Sort.grow (redrawn W5 dr) os) λe DW =>e= .returned (.bool R)/\∃p:Regrown,DW =Sort.grow (redrawn W5 p.d) p.os:=λdr os=>Calls.regrown_of (HS.o _ (below_regrown W5 dr os));have JF:IntKind.i64.wrap yx=yx:=zae;have AF:Af (m' x=some s/\R=decide (s=sh)/\yx=s.next):=⟨hm,hR,JD⟩;clear hm hf hR eE ec Zo JD;cases R
          .have bT:¬s=sh:=Qbo AF.p2.symm;have HT:Af (T=false):=(by show _=_;rw[HN.p5];unfold mr;rw[gV gone ao (k+1) (HQ.o none (js c _ (j+1) _ (HJ.p2.trans (km gd AF.p1 (λh=>bT h.1)))))];rfl);clear bT;refine wp_region_quiet_below KJ KJ ?_;(repeat(go_big_quiet_step (first|with_reducible exact cA _ _)));refine Qdp ?_;intro _ s9;obtain⟨⟨dq,mj⟩,iM⟩:=s9;subst iM;have b6:=below_regrown W5 dq mj;generalize Sort.grow (redrawn W5 dq) mj=W6 at*;have B6:=aa b6;clear b6;go_wp2_with fail;(all_goals(try rw[Qv]));(all_goals go_ret);all_goals exact⟨IT,Pd kL.p3 B6.o⟩
          .by_cases fu:yx=nv
           .have qe:Af (foldI (bV c) 0 ((iK c).take (j+1)) (some m0)=some (mX m' x)):=HJ.p2.trans (vK gd AF.p1 ⟨XQ AF.p2.symm,by rw[<-AF.q2,fu];exact HJ.p3⟩);subst fu;refine wp_region_quiet_below KJ KJ ?_;(repeat(go_big_quiet_step (first|with_reducible exact cA _ _)));refine Qdp ?_;intro _ s9;obtain⟨⟨dq,mj⟩,iM⟩:=s9;subst iM;have b6:=below_regrown W5 dq mj;generalize Sort.grow (redrawn W5 dq) mj=W6 at*;have B6:=aa b6;clear b6;have hM6:=kL.p1.on B6.o;obtain⟨W7,sC,hM7,ti⟩:=hM6.drop HJ.q8 (0:Fy);have iq:(Builtin.delete_ #[287,3] 0 #[.map (some mb),ac x]).run prog W6= .ok (.tuple #[]) W7:=sC;have l6:=Pd kL.p3 B6.o;have b7:Below w W6 W7:=(Xj w W6).grown ti l6.size (λg e=>by rw[<-Qr e];exact kL.p5);have HF:Af (WO w mb (foldI (bV c) 0 ((iK c).take (j+1)) (some m0)) W7/\aq W7 cb 72 [ac fr,ac dp,el b1 o1 m1 c1,el b2 o2 m2 c2]):=LE;exact zeJ
           .have N2:¬s.next=c.blocks.getD (j+1) 0:=λh=>fu zdp;have HT:Af (T=false):=Qa;clear N2;refine wp_region_quiet_below KJ KJ ?_;(repeat(go_big_quiet_step (first|with_reducible exact cA _ _)));refine Qdp ?_;intro _ s9;obtain⟨⟨dq,mj⟩,iM⟩:=s9;subst iM;have b6:=below_regrown W5 dq mj;generalize Sort.grow (redrawn W5 dq) mj=W6 at*;have B6:=aa b6;clear b6;go_wp2_with fail;(all_goals(try rw[Qv]));(all_goals go_ret);all_goals exact⟨IT,Pd kL.p3 B6.o⟩
        .have z5:=HNx.q1 tC;have z6:¬(j:Int)+1<m1:=(by omega);clear tC;subst z5;go_upto_region 22 with fail;clear z6 c52;rcases kL.p2 x with⟨hf,hm⟩|⟨y,s,hf,hm,Zo,JD,eE,ec⟩
         .have pS:tb=false:=(by rw[HJ.p8,hf];rfl);subst pS;have HT:Af (T=false):=VE;clear hm hf;refine wp_region_quiet_below KJ KJ ?_;(repeat(go_big_quiet_step (fail)));refine Qdp ?_;intro _ s9;obtain⟨⟨dq,mj⟩,iM⟩:=s9;subst iM;have b6:=below_regrown W5 dq mj;generalize Sort.grow (redrawn W5 dq) mj=W6 at*;have B6:=aa b6;clear b6;go_wp2_with fail;(all_goals(try rw[Qv]));(all_goals go_ret);all_goals exact⟨IT,Pd kL.p3 B6.o⟩
         .have pS:tb=true:=(by rw[HJ.p8,hf];rfl);subst pS;have hye:(⟨yd,yx,ya,yn,yc⟩:MR)=y:=(by rw[HJ.p7,hf];rfl);subst hye;obtain⟨R,hR⟩:∃R,R=decide (s=sh):=⟨_,rfl⟩;have HS:Af (∀W,ci W5 W->Calls prog 196 #[.agg #[io yd,gc yx,am ya yn yc],.agg #[io d,gc nx,am Ae ne ce]] W (iF (.bool R) λw' =>ci W w')):=λW hW=>AT;have cA:∀dr os,Calls prog 196 #[.agg #[io yd,gc yx,am ya yn yc],.agg #[io d,gc nx,am Ae ne ce]] (Sort.grow (redrawn W5 dr) os) λe DW =>e= .returned (.bool R)/\∃p:Regrown,DW =Sort.grow (redrawn W5 p.d) p.os:=λdr os=>Calls.regrown_of (HS.o _ (below_regrown W5 dr os));have JF:IntKind.i64.wrap yx=yx:=zae;have AF:Af (m' x=some s/\R=decide (s=sh)/\yx=s.next):=⟨hm,hR,JD⟩;clear hm hf hR eE ec Zo JD;cases R
          .have bT:¬s=sh:=Qbo AF.p2.symm;have HT:Af (T=false):=(by show _=_;rw[HN.p5];unfold mr;rw[gV gone ao (k+1) (HQ.o none (js c _ (j+1) _ (HJ.p2.trans (km gd AF.p1 (λh=>bT h.1)))))];rfl);clear bT;refine wp_region_quiet_below KJ KJ ?_;(repeat(go_big_quiet_step (first|with_reducible exact cA _ _)));refine Qdp ?_;intro _ s9;obtain⟨⟨dq,mj⟩,iM⟩:=s9;subst iM;have b6:=below_regrown W5 dq mj;generalize Sort.grow (redrawn W5 dq) mj=W6 at*;have B6:=aa b6;clear b6;go_wp2_with fail;(all_goals(try rw[Qv]));(all_goals go_ret);all_goals exact⟨IT,Pd kL.p3 B6.o⟩
          .by_cases fu:yx=0
           .have qe:Af (foldI (bV c) 0 ((iK c).take (j+1)) (some m0)=some (mX m' x)):=HJ.p2.trans (vK gd AF.p1 ⟨XQ AF.p2.symm,by rw[<-AF.q2,fu];exact HJ.p3⟩);subst fu;refine wp_region_quiet_below KJ KJ ?_;(repeat(go_big_quiet_step (first|with_reducible exact cA _ _)));refine Qdp ?_;intro _ s9;obtain⟨⟨dq,mj⟩,iM⟩:=s9;subst iM;have b6:=below_regrown W5 dq mj;generalize Sort.grow (redrawn W5 dq) mj=W6 at*;have B6:=aa b6;clear b6;have hM6:=kL.p1.on B6.o;obtain⟨W7,sC,hM7,ti⟩:=hM6.drop HJ.q8 (0:Fy);have iq:(Builtin.delete_ #[287,3] 0 #[.map (some mb),ac x]).run prog W6= .ok (.tuple #[]) W7:=sC;have l6:=Pd kL.p3 B6.o;have b7:Below w W6 W7:=(Xj w W6).grown ti l6.size (λg e=>by rw[<-Qr e];exact kL.p5);have HF:Af (WO w mb (foldI (bV c) 0 ((iK c).take (j+1)) (some m0)) W7/\aq W7 cb 72 [ac fr,ac dp,el b1 o1 m1 c1,el b2 o2 m2 c2]):=LE;exact zeJ
           .have N2:¬s.next=c.blocks.getD (j+1) 0:=λh=>fu zdp;have HT:Af (T=false):=Qa;clear N2;refine wp_region_quiet_below KJ KJ ?_;(repeat(go_big_quiet_step (first|with_reducible exact cA _ _)));refine Qdp ?_;intro _ s9;obtain⟨⟨dq,mj⟩,iM⟩:=s9;subst iM;have b6:=below_regrown W5 dq mj;generalize Sort.grow (redrawn W5 dq) mj=W6 at*;have B6:=aa b6;clear b6;go_wp2_with fail;(all_goals(try rw[Qv]));(all_goals go_ret);all_goals exact⟨IT,Pd kL.p3 B6.o⟩
      .have JK:=QE HI.p1 (QC hj);have HE:Af (WO w mb (mu gone (ao.take (k+1))) wr):=(by have h1:=HI.p2;rw[JK,Qj (l:=iK c) zcT] at h1;obtain⟨f,sz,m',g1,g2,g3⟩:=h1.ex;exact⟨⟨f,sz,m',g1,g2,HQ.o _ g3⟩,h1.low,h1.wG⟩);exact zfo
    .have SJ:=QE HR.p1 (QC hk);have hK:=HR.q1;rw[SJ,Qj zdj] at hK;have HT:Af (T=true):=(by show _=_;rw[HN.p5];unfold mr;obtain⟨f,sz,m,-,-,g3⟩:=hK.ex;rw[g3];rfl);have HL:=aa hK.low;subst SJ;clear HR hk hK L0;go_wp2_with fail;(try rw[Qv]);exact zfX
variable{ao gone:List ak}{k:Nat}{t:Fy}{K:Act -> Wo -> Prop}
structure qo(c:ak):Prop where
 kp:ru c
 d8:c.depth<=8
 f256:c.ax<256
 ne:c.ah≠[]
def rF(cs:List ak)(c:ak):Bool:=dz c&&decide (Bf cs c.ax=some c)
def yE(h:gone[k]? =some c)(hb:rF cs c=false):kW cs gone ao=false:=by
 have:gone.all (λc=>dz c&&decide (Bf cs c.ax=some c))=false:=by rw[Xf];intro h1;have h2:=XT.1 h1 c (Qi h);unfold rF at hb;rw[hb] at h2;cases h2
 rw[kW,this];rfl
def LO(h:ao[k]? =some c)(hb:dz c=false):kW cs gone ao=false:=by
 have:ao.all dz=false:=by rw[Xf];intro h1;have h2:=XT.1 h1 c (Qi h);rw[hb] at h2;cases h2
 rw[kW,this];simp
def Df{α:Type}{p:α->Bool}{l:List α}{x:α}(h:(l.take k).all p=true)(hx:l[k]? =some x)(hp:p x=true):(l.take (k+1)).all p=true:=by rw[aA l k x hx,List.all_append,h];simpa using hp
def MU.slot{s:aX}{dep:Nat}{ae:List (Nat×Int)}{at_:Fr}(h:MU s dep ae at_ cs){n:Nat}(hn:n<256):
  ∃(j i:Nat) (sg:Nat×Int) (c:ak),ae[j]? =some sg/\cs[j]? =some c/\i<sg.1/\n/2^(8 - dep)=aC ae j+i/\Bf cs n=some c:=by
 have hd:=h.dir.oH.d8;have hq:n/2^(8 - dep)<(expand ae).length:=by rw[h.dir.oH.sum];refine(Qdk (Qba _)).2 ?_;rw[<-Qch,show dep+(8 - dep)=8 by omega];exact hn
 obtain⟨j,sg,i,hj,hi,he⟩:=lo ae _ hq;obtain⟨c,hc⟩:=h.at_seg hj;obtain⟨-,-,-,h4,e,h5,h6,h7⟩:=h.ch j sg c hj hc;obtain⟨e',g1,g2,g3⟩:=h.dir.oH.two j sg hj;refine⟨j,i,sg,c,hj,hc,hi,he,h.aaP.find (Qi hc) ?_⟩;rw[h4,h7];exact CF h5 hd (h6▸g3) (h6▸hi) he
section
def kg(p v:Va)(hx:a.eval x=p)(h:(Instr.loadAt t p).run P w= .ok v w)(hk:K (a.put dst v) w):Oper.wp P ⟨dst,.load t x,ty,pos,after,none⟩ a w K Q:=zeC
end
def Pm:∀(zs:Fr) (a:Int),1<zs.foldl max a↔1<a\/∃x∈zs,1<x
 |[],a=>Sv
 |z::r,a=>by
  rw[Qak,Pm r (max a z)];constructor
  .rintro(h|⟨x,hx,h⟩)
   .by_cases h1:1<a
    .exact Or.inl h1
    .exact Or.inr ⟨z,Qm ..,Mx⟩
   .exact Or.inr ⟨x,Qs _ hx,h⟩
  .rintro(h|⟨x,hx,h⟩)
   .exact Or.inl Mx
   .rcases QA.1 hx with rfl|hx
    .exact Or.inl Mx
    .exact Or.inr ⟨x,hx,h⟩
def Ru{l:GT}(hl:l≠[]):decide (1<Lib.maxOf (l.map λk:Nat=>(k:Int)))= !(l.all λk=>decide (k<=1)):=by
 rw[XD,XS,Qfn,List.all_eq_false];rw[Lib.maxOf,Pm];cases l with
 |nil=>exact absurd rfl hl
 |cons a r=>
  constructor
  .rintro(h|⟨x,hx,h⟩)
   .exact⟨a,Qm ..,by have h:(1:Int)<(a:Int):=h;simp;omega⟩
   .obtain⟨y,hy,rfl⟩:=QU.1 hx;exact⟨y,hy,BY⟩
  .rintro⟨x,hx,h⟩;exact Or.inr ⟨(x:Int),QU.2 ⟨x,hx,rfl⟩,by simp at h;omega⟩
def ly{w:Wo}{g g' :Nat}{t:Fy}{cs:Ox}(h:aq w g t cs)(bT:g≠g')(c:Zvv):aq (w.setRow g' c) g t cs:=by unfold aq at h|-;unfold World.setRow;simp only[Qge,Xd (Xm bT),h]
def Fw(W:Wo)(l1 l2:Ox)(h1:l1.length=256)(h2:l2.length=256)(o1:∀u∈l1,u.oneCell' =true)(o2:∀u∈l2,u.oneCell' =true):
  ∃W5 W6,(Instr.storeAt 238 W (.agg l1.toArray)).run prog ((W.alloc (.cells Tryz.zeroCells238 238)).alloc (.cells Tryz.zeroCells238 238))= .ok () W5/\(Instr.storeAt 238 (li (W.heap.size+1)) (.agg l2.toArray)).run prog W5= .ok () W6/\
   aq W6 W 238 l1/\aq W6 (W.heap.size+1) 238 l2/\ci W W6:=by
 obtain⟨Z,hZ⟩:∃Z,Z=Tryz.zeroCells238:=⟨_,rfl⟩;have hZ0:Z=(replicate 256 (ac 0)).toArray:=by rw[hZ];kernel_rfl
 rw[<-hZ];obtain⟨W3,cD⟩:∃y,y=W.alloc (.cells Z 238):=⟨_,rfl⟩;have X3:aq W3 W 238 (replicate 256 (ac 0)):=by rw[cD,hZ0];exact ar W _ _
 have b3:ci W W3:=zbr;have s3:W3.heap.size=W.heap.size+1:=by rw[cD];simp
 rw[<-cD];obtain⟨W4,j7⟩:∃y,y=W3.alloc (.cells Z 238):=⟨_,rfl⟩;have X4:aq W4 W3 238 (replicate 256 (ac 0)):=by rw[j7,hZ0];exact ar W3 _ _
 have b4:ci W3 W4:=by rw[j7];exact aF _ _
 rw[<-j7];rw[s3] at X4;have Y4:=X3.on b4;have WK:=Pd b3 b4;have r1:=jo (P:=prog) (new:=l1) Y4 (by rw[h1];exact uI) (by rw[h1];simp) o1;have Y5:=lZ Y4 l1;have X5:=ly X4 (show W.heap.size+1≠W.heap.size by omega) l1.toArray;have b5:=below_setRow WK go l1.toArray;have r2:=jo (P:=prog) (new:=l2) X5 (by rw[h2];exact uI) (by rw[h2];simp) o2;exact⟨_,_,r1,r2,ly Y5 (show W.heap.size≠W.heap.size+1 by omega) l2.toArray,lZ X5 l2,below_setRow b5 (Q0 _) _⟩
def LP(w:Wo)(I:bF)(s:aX)(h:cR w I s)(dep:Nat)(ae:List (Nat×Int))(at_:Fr)(cs:List ak)(hk:MU s dep ae at_ cs)(dv:Va)(ue:Ns w w .u16 dv (expand ae))(S:FV)(gv cv:Va)(gone ao:List ak)(hg:mI w S gv gone)(hc:mI w S cv ao)(AU:gone.length<=20)(oJ:ao.length<=10000)(JM:∀c∈gone,qo c)(AW:∀c∈ao,qo c):
  Calls prog 76 #[I.b,.agg #[io dep,dv],gv,cv] w (iF (ac (if kW cs gone ao then 0 else 2)) λw' =>ci w w') :=by
 obtain⟨Ag,cg,rfl⟩:=hg.form;obtain⟨Ac,cc,rfl⟩:=hc.form;obtain⟨Ad,cd,rfl,-,-⟩:=ue.form;have⟨G,hG⟩:=eX gone.length;have⟨C,hC⟩:=eX ao.length;have⟨nd,im⟩:=eX ((expand ae).length);obtain⟨EV,hEV⟩:∃e:Int,e=if kW cs gone ao then 0 else 2:=⟨_,rfl⟩;have J1:Ns w w .u16 (am Ad nd cd) (expand ae):=by rw[im];exact ue
 rw[<-hG,<-hC,<-hEV,<-im];have HG:=aa hg;have HC:=aa hc;have HB:=iJ h hk J1;have HN:=hI7 hG hC (by omega:G<=20) (by omega:C<=10000) hEV JM AW;obtain⟨W1,aW,X1,b1⟩:=nW w [io dep,am Ad nd cd] 66;have⟨db,iU⟩:=eX w.heap.size;rw[<-iU] at X1;have tl:=iJ X1 b1 (by rw[iU];exact go:w.heap.size<=db);have gB:=dK aW.symm iU.symm;have⟨E,hE⟩:=eX (8 - dep);have HE:=aa hE;have e2:min E 64=E:=Zh Mx;have e3:(0:Int)<=E:=Xh E;have qc:=hk.dir.oH.d8;have e4:IntKind.i64.wrap (dep:Int)=dep:=UV;have e5:IntKind.i64.wrap (8 - (dep:Int))=E:=UV;have e6:wrap64 (8 - (dep:Int))=E:=vW;clear h hk ue J1 hg hc hG hC im hEV AU oJ JM AW aW X1 b1 iU hE qc;go_in;go_upto_region 1 with fail;rw[gB.p1,gB.q1];go_wp2_with fail;go_loopw [19] (λiv wr=>∃k:Nat,iv= ac k/\Af (k<=G/\(gone.take k).all (rF cs)=true/\aq wr db 66 [io dep,am Ad nd cd]/\ci w wr)) (λiv _=>G - (intOf iv).toNat)
 .exact⟨0,rfl,lm,rfl,tl.p1,tl.p2⟩
 .obtain⟨k,rfl,HR⟩:=hrel;by_cases hk:k<G
  .obtain⟨c,jV⟩:∃c,gone[k]? =some c:=⟨_,Qf zcQ⟩;obtain⟨b,o,rr,A1,A2,m1,c1,m2,c2,hv,bO,z0,z1,z2,z3,kG⟩:=HG.o.lG jV;obtain rfl:Ag=some (an b o):=(by injection hv);have jZ:=HN.p6 c (Qi jV);have aU:=HR.q3;have y0:=(aU.cell (p:=an b (o+k*4)) bO).trans z0;have y1:=(aU.cell (p:=an b (o+k*4+1)) bO).trans z1;have y2:=(aU.cell (p:=an b (o+k*4+2)) bO).trans z2;have y3:=(aU.cell (p:=an b (o+k*4+3)) bO).trans z3;have⟨fr,eo⟩:=eX c.ax;have⟨dp,eK⟩:=eX c.depth;rw[<-eo] at y0;rw[<-eK] at y1;obtain⟨W3,cD,X3,b3⟩:=nW wr [ac fr,ac dp,am A1 m1 c1,am A2 m2 c2] 72;have⟨gx,pZ⟩:=eX wr.heap.size;rw[<-pZ] at X3;have ES:=Pd aU b3;have xH:jw W3 S (.agg #[ac fr,ac dp,am A1 m1 c1,am A2 m2 c2]) c:=(by rw[eo,eK];exact kG.on ES);have⟨R,hR⟩:=eX (dz c);have mn:=pJ W3 c _ xH.chn jZ.d8 jZ.f256 jZ.ne jZ.kp.len zcY;rw[<-hR] at mn;replace mn:=aa mn;obtain⟨x0,x1,x2,x3⟩:=mm X3;have mT:=dK cD.symm pZ.symm;have H3:=Ba X3 (HR.p3.on b3) ES xH (by rw[pZ];exact aU.size:w.heap.size<=gx);have HX:=Nv jV hk jZ hR eo HR.p2;obtain⟨u1,u2,u3⟩:=bR hk (Qh HN.p3 (show 20<=100000 by decide)) Fd;have Hu:=aa u1;clear jV hv bO z0 z1 z2 z3 kG jZ aU eo eK cD X3 b3 pZ ES xH hR HR hk u1;go_upto_region 4 with fail;rw[mT.p1,mT.q1];clear y0 y1 y2 y3;cases R
   .have HT:Af (EV=2):=(by show _=_;rw[HN.p5,yE HX.p1 (by unfold rF;rw[<-HX.p4];rfl)];rfl);go_wp2_with(go_at_call 71;refine mn.o.mono ?_;rintro e W4 ⟨rfl,b4⟩;have B4:=aa b4;clear b4);(all_goals(try rw[Qv]));(all_goals go_ret);all_goals exact⟨IT,Pd H3.p3 B4.o⟩
   .go_upto_region 6 with(go_at_call 71;refine mn.o.mono ?_;rintro e W4 ⟨rfl,b4⟩;have B4:=aa b4;clear b4);clear x0 x1 x2 x3;obtain⟨j,i,sg,cj,hj,Z0,hi,hq,kJ⟩:=HB.p2.slot HX.p3.f256;have⟨q,hqd⟩:=eX (c.ax/2^(8 - dep));have q1:((fr:Int)/2^E)=(q:Int):=(by rw[show((2:Int)^E)=((2^E:Nat):Int) from(Qdn 2 E).symm,<-Qdw,hqd,HX.p5,HE.o]);have l4:=Pd H3.p3 B4.o;have xC:=below_drewN (Xj W4 W4) 1;have⟨Wd,dJ⟩:=eX W4.drew;have ld:ci w Wd:=(by rw[dJ];exact l4.drew);have hWB:ci W3 Wd:=(by rw[dJ];exact B4.o.drew);have d0:Wd.cell? db=some (io dep):=(H3.p2.on hWB).cell rfl;have d1:Wd.cell? (an db 1)=some (am Ad nd cd):=(H3.p2.on hWB).cell rfl;have x0:Wd.cell? gx=some (ac fr):=(H3.p1.on hWB).cell rfl;have Ep:Af (∀W:Wo,ci Wd W->Calls prog 22 #[I.b,.agg #[io dep,am Ad nd cd],ac q] W λe W' =>∃bv sv ps,e= .returned (.tuple #[.agg #[ac cj.ax,ac cj.depth,bv,sv],ac 0])/\aB W' W 3 .i64 bv cj.blocks/\gj W' W sv ps/\ps.map Prod.fst=cj.ah/\ci W W'):=λW hW=>(by have lw:=Pd ld hW;have h1:=nR W I s (HB.p1.on lw) dep ae at_ cs HB.p2 (am Ad nd cd) (Sl.more (Sl.below HB.q2 lw) lw.size) j i sg cj hj Z0 hi;rw[<-hq,<-hqd] at h1;exact h1);have HJ:=kH kJ ld hWB (Qi Z0);have AG:=aa dJ.symm;clear hj Z0 hi hq kJ hqd l4 xC dJ ld hWB;go_cut [11,12] from 26 to 38 (λv11 v12 W=>∃(g:Nat) (m:zgk),m.c=cj/\v11= li g/\v12= ac 0/\Af (aq W g 72 [ac cj.ax,ac cj.depth,m.bv,m.sv]/\rl W Wd m/\ci Wd W))
    .refine bL (λj=>[15].contains j) (λW=>ci Wd W) KJ ?_;rw[AG.o];have L:=Xj Wd Wd;refine tKz 0 27 I.b pm (λW hW=>zM) L ?_;(try simp only[Act.put,Qb,Qc,Qd]);refine tKz 1 28 (.agg #[io dep,am Ad nd cd]) pm (λW hW=>by have h0_:=(hW.cell (XX d0)).trans d0;have h1_:=(hW.cell (XX d1)).trans d1;go_simp) L ?_;(try simp only[Act.put,Qb,Qc,Qd]);refine tKz 2 29 gx pm (λW hW=>zM) L ?_;(try simp only[Act.put,Qb,Qc,Qd]);refine tKz 3 30 (ac fr) pm (λW hW=>by have h0_:=(hW.cell (XX x0)).trans x0;go_simp) L ?_;(try simp only[Act.put,Qb,Qc,Qd]);refine tKz 4 31 db pm (λW hW=>zM) L ?_;(try simp only[Act.put,Qb,Qc,Qd]);refine tKz 5 32 (io dep) pm (λW hW=>by have h0_:=(hW.cell (XX d0)).trans d0;go_simp) L ?_;(try simp only[Act.put,Qb,Qc,Qd]);refine tKz 6 33 (ac dep) pm (λW hW=>zM) L ?_;(try simp only[Act.put,Qb,Qc,Qd]);refine tKz 7 34 (ac E) pm (λW hW=>zM) L ?_;(try simp only[Act.put,Qb,Qc,Qd]);refine tKz 8 35 (ac q) pm (λW hW=>zM) L ?_;(try simp only[Act.put,Qb,Qc,Qd]);refine ma (rs:=[9,13]) KJ Sv ?_;refine cT.cons rfl (λK hK=> ?_) (cT.cons rfl (λK hK=> ?_) cT.nil)
     .skip
      go_simp;go_at_call 22;refine Qaw (Ep.o Wd L) ?_;rintro e V9 ⟨bv9,sv9,Eu,rfl,o9,p9,q9,b9⟩;obtain⟨Ab,nb,cb,rfl⟩:=o9.bu;obtain⟨As,ns,Bd,rfl⟩:=p9.form;have O9:rl V9 Wd ⟨cj,am Ab nb cb,am As ns Bd,Eu⟩:=rl.low (m:=⟨cj,am Ab nb cb,am As ns Bd,Eu⟩) ⟨o9,p9,q9⟩ L.size;clear o9 p9;have L:=Pd L b9;go_simp;refine hK.out _ _ (λ_=>L) ?_;clear hK K;(try simp only[Act.put,Qb,Qc,Qd]);refine tKz 10 26 (.tuple #[.agg #[ac cj.ax,ac cj.depth,am Ab nb cb,am As ns Bd],ac 0]) pm (λW hW=>zM) L ?_;(try simp only[Act.put,Qb,Qc,Qd]);refine tKz 11 37 (.agg #[ac cj.ax,ac cj.depth,am Ab nb cb,am As ns Bd]) pm (λW hW=>zM) L ?_;(try simp only[Act.put,Qb,Qc,Qd]);refine tKz 12 38 (ac 0) pm (λW hW=>zM) L ?_;(try simp only[Act.put,Qb,Qc,Qd]);refine ju 13 rfl KJ λK hK=> ?_;obtain⟨V13,Ob,TW,mO⟩:=nW V9 [ac 0,ac 0,(),()] 72;have⟨g13,zl⟩:=eX V9.heap.size;rw[<-zl] at TW;have G13:Wd.heap.size<=g13:=(by rw[zl];exact L.size);have L:=Pd L mO;go_simp;rw[<-Ob,<-zl];clear Ob zl;refine hK.out _ _ (λ_=>L) ?_;clear hK K;(try simp only[Act.put,Qb,Qc,Qd]);refine ju 14 rfl KJ λK hK=> ?_;have TV:aq V13 g13 72 [ac 0,ac 0,(),()]:=(by first|exact TW|exact TW.on b9);have TZ:rl V13 Wd ⟨cj,am Ab nb cb,am As ns Bd,Eu⟩:=(by first|exact O9|exact O9.on mO);obtain⟨z0,z1,z2,z3⟩:=mm TV;obtain⟨f0,f1,f2,f3⟩:=WI TV;go_simp;have X15:=oW TV (ac cj.ax) (ac cj.depth) (am Ab nb cb) (am As ns Bd);have TY:=lO TV TZ.b TZ.s L G13 (ac cj.ax) (ac cj.depth) (am Ab nb cb) (am As ns Bd);have L15:=TY.2.2;have⟨V15,Oa⟩:=eX ((((V13.setCell (ol g13) (ac cj.ax)).setCell (an g13 1) (ac cj.depth)).setCell (an g13 2) (am Ab nb cb)).setCell (an g13 3) (am As ns Bd));rw[<-Oa] at X15 TY L15|-;clear Oa z0 z1 z2 z3 f0 f1 f2 f3;have L:=L15;refine hK.out _ _ (λ_=>L) ?_;clear hK K;(try simp only[Act.put,Qb,Qc,Qd]);refine ju 15 rfl KJ λK hK=> ?_;go_simp;refine hK.out _ _ (λh=>absurd h Fd) ?_;clear hK K;(try simp only[Act.put,Qb,Qc,Qd]);exact zex
     .skip
      obtain⟨V13,Ob,TW,mO⟩:=nW Wd [ac 0,ac 0,(),()] 72;have⟨g13,zl⟩:=eX Wd.heap.size;rw[<-zl] at TW;have G13:Wd.heap.size<=g13:=(by rw[zl];exact L.size);have L:=Pd L mO;go_simp;rw[<-Ob,<-zl];clear Ob zl;refine hK.out _ _ (λ_=>L) ?_;clear hK K;(try simp only[Act.put,Qb,Qc,Qd]);refine ju 9 rfl KJ λK hK=> ?_;go_simp;go_at_call 22;refine Qaw (Ep.o V13 L) ?_;rintro e V9 ⟨bv9,sv9,Eu,rfl,o9,p9,q9,b9⟩;obtain⟨Ab,nb,cb,rfl⟩:=o9.bu;obtain⟨As,ns,Bd,rfl⟩:=p9.form;have O9:rl V9 Wd ⟨cj,am Ab nb cb,am As ns Bd,Eu⟩:=rl.low (m:=⟨cj,am Ab nb cb,am As ns Bd,Eu⟩) ⟨o9,p9,q9⟩ L.size;clear o9 p9;have L:=Pd L b9;go_simp;refine hK.out _ _ (λ_=>L) ?_;clear hK K;(try simp only[Act.put,Qb,Qc,Qd]);refine tKz 10 26 (.tuple #[.agg #[ac cj.ax,ac cj.depth,am Ab nb cb,am As ns Bd],ac 0]) pm (λW hW=>zM) L ?_;(try simp only[Act.put,Qb,Qc,Qd]);refine tKz 11 37 (.agg #[ac cj.ax,ac cj.depth,am Ab nb cb,am As ns Bd]) pm (λW hW=>zM) L ?_;(try simp only[Act.put,Qb,Qc,Qd]);refine tKz 12 38 (ac 0) pm (λW hW=>zM) L ?_;(try simp only[Act.put,Qb,Qc,Qd]);refine ju 14 rfl KJ λK hK=> ?_;have TV:aq V9 g13 72 [ac 0,ac 0,(),()]:=(by first|exact TW|exact TW.on b9);have TZ:rl V9 Wd ⟨cj,am Ab nb cb,am As ns Bd,Eu⟩:=(by first|exact O9|exact O9.on mO);obtain⟨z0,z1,z2,z3⟩:=mm TV;obtain⟨f0,f1,f2,f3⟩:=WI TV;go_simp;have X15:=oW TV (ac cj.ax) (ac cj.depth) (am Ab nb cb) (am As ns Bd);have TY:=lO TV TZ.b TZ.s L G13 (ac cj.ax) (ac cj.depth) (am Ab nb cb) (am As ns Bd);have L15:=TY.2.2;have⟨V15,Oa⟩:=eX ((((V9.setCell (ol g13) (ac cj.ax)).setCell (an g13 1) (ac cj.depth)).setCell (an g13 2) (am Ab nb cb)).setCell (an g13 3) (am As ns Bd));rw[<-Oa] at X15 TY L15|-;clear Oa z0 z1 z2 z3 f0 f1 f2 f3;have L:=L15;refine hK.out _ _ (λ_=>L) ?_;clear hK K;(try simp only[Act.put,Qb,Qc,Qd]);refine ju 15 rfl KJ λK hK=> ?_;go_simp;refine hK.out _ _ (λh=>absurd h Fd) ?_;clear hK K;(try simp only[Act.put,Qb,Qc,Qd]);exact zex
    .obtain⟨g,m,hm,rfl,rfl,HG9⟩:=hcut;obtain⟨mc,mb,ms,mp⟩:=m;obtain rfl:mc=cj:=hm;have hO:=HG9.p2;obtain⟨Ab,nb,cbb,rfl⟩:=hO.b.bu;obtain⟨As,ns,css,rfl⟩:=hO.s.form;have lwc:ci W3 wc:=Pd HJ.p3 HG9.q2;have oJ:mc.blocks.length<=4096:=Qh (fL cs mc HJ.q3) HB.p2.many;have kG:=HB.p2;have⟨R2,SU⟩:=eX (decide (mc=c));have Wq:mc.ah.length=mc.blocks.length:=(by obtain⟨jj,hjj⟩:=Qab HJ.q3;have wI:=(Ql.1 hjj).1;obtain⟨h1,-⟩:=kG.ch jj _ mc (Qf (by rw[<-kG.len];exact wI)) hjj;exact h1.len.symm);have HSm:=KD wc mc c _ _ hO.chn (H3.p4.on lwc).chn (Qh oJ Fd) (Qh HX.p3.kp.y7 Fd) (by rw[Wq];exact Qh oJ Fd);rw[<-SU] at HSm;replace HSm:=aa HSm;obtain⟨g0,g1,g2,g3⟩:=mm HG9.p1;obtain⟨z0,z1,z2,z3⟩:=mm (H3.p1.on lwc);have HL:=aa lwc;have fF:=aa SU;clear hO lwc oJ kG SU Wq d0 d1 x0;cases R2
     .have HT:Af (EV=2):=(by show _=_;rw[HN.p5,yE HX.p1 (by unfold rF;rw[HJ.p1];have h1:¬mc=c:=Qbo fF.o.symm;simp[h1])];rfl);go_wp2_with(go_at_call 141;refine HSm.o.mono ?_;rintro e W8 ⟨rfl,b8⟩;have B8:=aa b8;clear b8);(all_goals(try rw[Qv]));(all_goals go_ret);all_goals exact⟨IT,(Pd H3.p3 HL.o).trans (B8.o.mono (Pd H3.p3 HL.o).size)⟩
     .go_wp2_with(go_at_call 141;refine HSm.o.mono ?_;rintro e W8 ⟨rfl,b8⟩;have B8:=aa b8;clear b8);refine⟨⟨k+1,yL,HX.p2,Df HX.q5 HX.p1 (by unfold rF;have h1:mc=c:=XQ fF.o.symm;rw[HJ.p1,<-HX.p4,h1];simp),(H3.p2.on HL.o).on B8.o,(Pd H3.p3 HL.o).trans (B8.o.mono (Pd H3.p3 HL.o).size)⟩,LT⟩
  .have Wu:k=G:=QE HR.p1 (QC hk);have bm:=HR.p2;rw[Wu,Qj zdi] at bm;have HA:Af (gone.all (rF cs)=true/\ci w wr):=⟨bm,HR.q3⟩;subst Wu;clear HR hk bm tl gB;go_wp2_with fail;go_loopw [49] (λiv wr=>∃k:Nat,iv= ac k/\Af (k<=C/\(ao.take k).all dz=true/\ci w wr)) (λiv _=>C - (intOf iv).toNat)
   .exact⟨0,rfl,lm,rfl,HA.q1⟩
   .obtain⟨k,rfl,HR⟩:=hrel;by_cases hk:k<C
    .obtain⟨c,jV⟩:∃c,ao[k]? =some c:=⟨_,Qf zcR⟩;obtain⟨b,o,rr,A1,A2,m1,c1,m2,c2,hv,bO,z0,z1,z2,z3,kG⟩:=HC.o.lG jV;obtain rfl:Ac=some (an b o):=(by injection hv);have jZ:=HN.q6 c (Qi jV);have aU:=HR.q2;have y0:=(aU.cell (p:=an b (o+k*4)) bO).trans z0;have y1:=(aU.cell (p:=an b (o+k*4+1)) bO).trans z1;have y2:=(aU.cell (p:=an b (o+k*4+2)) bO).trans z2;have y3:=(aU.cell (p:=an b (o+k*4+3)) bO).trans z3;have⟨fr,eo⟩:=eX c.ax;have⟨dp,eK⟩:=eX c.depth;rw[<-eo] at y0;rw[<-eK] at y1;obtain⟨W3,cD,X3,b3⟩:=nW wr [ac fr,ac dp,am A1 m1 c1,am A2 m2 c2] 72;have⟨gx,pZ⟩:=eX wr.heap.size;rw[<-pZ] at X3;have ES:=Pd aU b3;have xH:jw W3 S (.agg #[ac fr,ac dp,am A1 m1 c1,am A2 m2 c2]) c:=(by rw[eo,eK];exact kG.on ES);have⟨R,hR⟩:=eX (dz c);have mn:=pJ W3 c _ xH.chn jZ.d8 jZ.f256 jZ.ne jZ.kp.len zcY;rw[<-hR] at mn;replace mn:=aa mn;obtain⟨x0,x1,x2,x3⟩:=mm X3;have mT:=dK cD.symm pZ.symm;have HX:=Ba jV hk hR HR.p2 ES;obtain⟨u1,u2,u3⟩:=bR hk (Qh HN.p4 (show 10000<=100000 by decide)) Fd;have Hu:=aa u1;clear jV hv bO z0 z1 z2 z3 kG jZ aU eo eK cD X3 b3 pZ ES xH hR HR hk u1;go_upto_region 15 with fail;rw[mT.p1,mT.q1];clear y0 y1 y2 y3;cases R
     .have HT:Af (EV=2):=(by show _=_;rw[HN.p5,LO HX.p1 HX.p3.symm];rfl);go_wp2_with(go_at_call 71;refine mn.o.mono ?_;rintro e W4 ⟨rfl,b4⟩;have B4:=aa b4;clear b4);(all_goals(try rw[Qv]));(all_goals go_ret);all_goals exact⟨IT,Pd HX.q4 B4.o⟩
     .go_wp2_with(go_at_call 71;refine mn.o.mono ?_;rintro e W4 ⟨rfl,b4⟩;have B4:=aa b4;clear b4);exact⟨⟨k+1,yL,HX.p2,Df HX.p4 HX.p1 HX.p3.symm,Pd HX.q4 B4.o⟩,LT⟩
    .have SJ:k=C:=QE HR.p1 (QC hk);have bm:=HR.p2;rw[SJ,Qj zdj] at bm;have IF:Af (ao.all dz=true/\ci w wr):=⟨bm,HR.q2⟩;subst SJ;clear HR hk bm;have⟨lg,hlg⟩:=eX ((dF gone).map λk:Nat=>(k:Int));have⟨lc,ZQ⟩:=eX ((dF ao).map λk:Nat=>(k:Int));have agu:(dF gone).map (λk:Nat=>ac k)=lg.map (.int .i64):=(by rw[hlg,Qbg];rfl);have agv:(dF ao).map (λk:Nat=>ac k)=lc.map (.int .i64):=(by rw[ZQ,Qbg];rfl);have⟨T1,rh⟩:=eX ((lg.map (Value.int .i64)).toArray);have⟨T2,tG⟩:=eX ((lc.map (Value.int .i64)).toArray);have abc:=sV wr S _ gone (HG.o.on IF.q1) (Qh (by rw[<-HN.p1];exact HN.p3) (show 20<=10000 by decide)) (λc hc=>⟨(HN.p6 c hc).f256,(HN.p6 c hc).d8⟩);have abb:=λ(W:Wo) (hW:ci wr W)=>sV W S _ ao (HC.o.on (Pd IF.q1 hW)) zcs (λc hc=>⟨(HN.q6 c hc).f256,(HN.q6 c hc).d8⟩);rw[agu,<-rh,<-HN.p1] at abc;simp only[agv,<-tG,<-HN.p2] at abb;have anU:=aa abc;have anT:=aa abb;have ME:lg.length=256:=(by rw[hlg];simp[dF]);have rf:lc.length=256:=(by rw[ZQ];simp[dF]);have oO:=Nv rh tG ME rf hlg ZQ;have an6:Af (∀W:Wo,∃W5 W6,(Instr.storeAt 238 W (.agg T1)).run prog ((W.alloc (.cells Tryz.zeroCells238 238)).alloc (.cells Tryz.zeroCells238 238))= .ok () W5/\(Instr.storeAt 238 (li (W.heap.size+1)) (.agg T2)).run prog W5= .ok () W6/\aq W6 W 238 (lg.map (.int .i64))/\aq W6 (W.heap.size+1) 238 (lc.map (.int .i64))/\ci W W6):=λW=>(by rw[rh,tG];exact Fw W _ _ (by rw[Qq];exact ME) (by rw[Qq];exact rf) (dW _ _) (dW _ _));clear hlg ZQ agu agv rh tG abc abb ME rf;go_upto_region 18 with fail
     go_upto_region 19 with(first
      |(go_at_call 142;go_must(first
       |((with_reducible refine anU.o.mono ?_);rintro e W1 ⟨rfl,b1⟩;have B1:=aa b1;clear b1)
       |((with_reducible refine(anT.o W1 B1.o).mono ?_);rintro e W2 ⟨rfl,b2⟩;have B2:=aa (Pd B1.o b2);have HA6:=an6.o W2;clear b2;obtain⟨W5,W6,s1,s2,x1,x2,b6⟩:=HA6;have HS1:=aa s1;have j2:=aa s2;have HX6:Af (aq W6 W2 238 (lg.map (.int .i64))/\aq W6 (W2.heap.size+1) 238 (lc.map (.int .i64))/\ci W2 W6):=⟨x1,x2,b6⟩;clear s1 s2 x1 x2 b6)))
      |((with_reducible refine wl_store W2 (.agg T1) ?_ ?_ HS1.o ?_);(·rfl);(·rfl))
      |((with_reducible refine wl_store (li (W2.heap.size+1)) (.agg T2) ?_ ?_ j2.o ?_);(·rfl);(·rfl)))
     have l6:ci w W6:=(Pd IF.q1 B2.o).trans (HX6.q2.mono (Pd IF.q1 B2.o).size);have N7:=fN (P:=prog) HX6.p1 underlying238 (by rw[Qq,oO.p3];exact uI);have N6:=fN (P:=prog) HX6.p2 underlying238 (by rw[Qq,oO.p4];exact uI);rw[<-oO.p1] at N7;rw[<-oO.p2] at N6;have⟨D,hD⟩:=eX (decide (lg=lc));have hq:∀W,(binOp .neq 238 (.agg T1) (.agg T2)).run prog W= .ok (.bool (!D)) W:=λW=>(by have h1:=zP W 9998 (P:=prog) (k:= .i64) (e:=3) (n:=256) underlying238 KJ KJ underlying3 lg lc oO.p3 oO.p4;rw[<-oO.p1,<-oO.p2,<-hD] at h1;rw[Qgp];rw[show(10000:Nat)=9998+2 from rfl,h1];simp);have Wv:prog.eqGuardType prog.depth 238=false:=KJ;have⟨M,hM⟩:=eX (Lib.maxOf lc);have kr:=HX6.p2.sl (o:=0) (n:=256) (sz:=1) (c:=256) (by rw[Qq,oO.p4];decide) go AN;rw[Zl,Qci,Qj (by rw[Qq,oO.p4];decide)] at kr;have pT:Ns W6 W6 .i64 (el (W2.heap.size+1) 0 256 256) lc:=(by unfold Ns;rw[oO.p4];exact kr);have HMx:=amV W6 _ lc _ pT (by rw[oO.p4];decide) (by rw[oO.p4];decide);rw[<-hM] at HMx;replace HMx:=aa HMx;have⟨Kv,hKv⟩:=eX (mr gone ao);have HKp:=Lv W6 S _ _ gone ao (HG.o.on l6) (HC.o.on l6) (by rw[<-HN.p1];exact HN.p3) zcs (λc hc=>(HN.p6 c hc).kp) (λc hc=>(HN.q6 c hc).kp);rw[<-hKv,<-HN.p1,<-HN.p2] at HKp;replace HKp:=aa HKp;have HF:Af (kW cs gone ao=(D&& !decide (1<M)&&Kv)):=(by show _=_;have h1:gone.all (λc=>dz c&&decide (Bf cs c.ax=some c))=true:=HA.p1;have h2:decide (dF gone=dF ao)=D:=(by rw[hD,oO.p5,oO.q5];refine decide_eq_decide.2 ⟨λh=>by rw[h],λh=> ?_⟩;exact(List.map_inj_right (λa b h=>Qgv h)).1 h);have h3:((dF ao).all λk=>decide (k<=1))= !decide (1<M):=(by rw[hM,oO.q5,Ru (by unfold dF;simp)];simp);unfold kW;rw[h1,IF.p1,h2,h3,<-hKv];simp);have NO:=aa l6;have HEV:=aa HN.p5;clear hD hM kr pT hKv l6;cases D
     .have HT:Af (EV=2):=(by show _=_;rw[HEV.o,HF.o];rfl);go_wp2_with fail;refine kg W2 (.agg T1) ?_ N7 ?_
      .rfl
      go_wp2_with fail;refine kg (li (W2.heap.size+1)) (.agg T2) ?_ N6 ?_
      .rfl
      go_wp2_with fail;(all_goals(try rw[Qv]));(all_goals go_ret);all_goals exact⟨IT,NO.o⟩
     .by_cases hM1:1<M
      .have HT:Af (EV=2):=(by show _=_;rw[HEV.o,HF.o];simp[hM1]);go_wp2_with fail;refine kg W2 (.agg T1) ?_ N7 ?_
       .rfl
       go_wp2_with fail;refine kg (li (W2.heap.size+1)) (.agg T2) ?_ N6 ?_
       .rfl
       go_wp2_with(first
        |(go_at_call 143;refine HMx.o.mono ?_;rintro e W7 ⟨rfl,rfl⟩)
        |(go_at_call 144;refine HKp.o.mono ?_;rintro e W8 ⟨rfl,b8⟩;have B8:=aa (Pd NO.o b8);clear b8))
       (all_goals(try rw[Qv]));(all_goals go_ret);all_goals exact⟨IT,NO.o⟩
      .cases Kv
       .have HT:Af (EV=2):=(by show _=_;rw[HEV.o,HF.o];simp[hM1]);go_wp2_with fail;refine kg W2 (.agg T1) ?_ N7 ?_
        .rfl
        go_wp2_with fail;refine kg (li (W2.heap.size+1)) (.agg T2) ?_ N6 ?_
        .rfl
        go_wp2_with(first
         |(go_at_call 143;refine HMx.o.mono ?_;rintro e W7 ⟨rfl,rfl⟩)
         |(go_at_call 144;refine HKp.o.mono ?_;rintro e W8 ⟨rfl,b8⟩;have B8:=aa (Pd NO.o b8);clear b8))
        (all_goals(try rw[Qv]));(all_goals go_ret);all_goals exact⟨IT,B8.o⟩
       .have HT:Af (EV=0):=(by show _=_;rw[HEV.o,HF.o];simp[hM1]);go_wp2_with fail;refine kg W2 (.agg T1) ?_ N7 ?_
        .rfl
        go_wp2_with fail;refine kg (li (W2.heap.size+1)) (.agg T2) ?_ N6 ?_
        .rfl
        go_wp2_with(first
         |(go_at_call 143;refine HMx.o.mono ?_;rintro e W7 ⟨rfl,rfl⟩)
         |(go_at_call 144;refine HKp.o.mono ?_;rintro e W8 ⟨rfl,b8⟩;have B8:=aa (Pd NO.o b8);clear b8))
        (all_goals(try rw[Qv]));(all_goals go_ret);all_goals exact⟨IT,B8.o⟩
variable{m bb cb vb:Nat}{s:aX}{TU:Ox}{pre:List ry}
def ku(s:aX)(c:ak)(m:Nat):Int×aX:=((c.blocks.zip c.ah).drop (c.ah.length - m)).foldr (nn c.depth) (0,s)
def rR(s:aX)(c:ak)(h:c.blocks.length=c.ah.length):ku s c 0=(0,s):=by rw[ku,List.drop_of_length_le (by rw[List.length_zip,h];omega)];rfl
def Qk(s:aX)(c:ak):ku s c c.ah.length=qh s c:=by unfold ku qh;rw[XE,Zl]
def KQ{s:aX}{c:ak}{j:Nat}{b:Int}{sh:ay}(hj:j+m+1=c.ah.length)(hb:c.blocks[j]? =some b)(hs:c.ah[j]? =some sh):ku s c (m+1)=nn c.depth (b,sh) (ku s c m):=by
 unfold ku;have hz:(c.blocks.zip c.ah)[j]? =some (b,sh):=by rw[Qip];exact⟨hb,hs⟩
 rw[show c.ah.length - (m+1)=j by omega,zgi hz,show c.ah.length - m=j+1 by omega];rfl
def KP{w:Wo}{I:bF}{s:aX}(h:cR w I s)(data:Fr):0<=(s.put data).1/\(s.put data).1<4096:=by
 have hn:=h.n0;unfold aX.put;split
 .exact zfv
 .split
  .exact zfv
  .split
   .exact zfv
   .obtain⟨b,h1,h2⟩:=aE.zB s.t s.next Mx h.ok.n2;dsimp only;rw[h1];omega
structure my(T:FV)(w:Wo)(I:bF)(s:aX)(c:ak)(bb cb vb:Nat)(TU:Ox)(pre:List ry)(W:Wo):Prop where
 le:pre.length<=c.ah.length
 base:cS (λx=>T x\/x=vb) W I (ku s c pre.length).2
 nx:aq W vb 3 [.int .i64 (ku s c pre.length).1]
 bbx:aq W bb 23 [.pointer (some ⟨I.b,0,none⟩)]
 cbx:aq W cb 72 TU
 aL:aG (BS I) w W
 rg:0<=(ku s c pre.length).1/\(ku s c pre.length).1<4096
section
def my.on{W' :Wo}(h:my T w I s c bb cb vb TU pre W)(hb:ci W W'):my T w I s c bb cb vb TU pre W' :=
 ⟨h.le,h.base.on hb,h.nx.on hb,h.bbx.on hb,h.cbx.on hb,h.aL.trans (aG.aZ hb),h.rg⟩
def my.obj(h:my T w I s c bb cb vb TU pre W)(hl:W.heap[l]? =some o)(hc:o.isCells=false)(hw:w.heap.size<=l)(hB:∀x,BS I x->x<w.heap.size)(bO:bb<l)(iI:cb<l)(oQ:vb<l)(o' :Obj):my T w I s c bb cb vb TU pre (W.putObj l o'):=by have q:aG (λx=>x=l) W (W.putObj l o'):=fY _ _ _ _ rfl;exact⟨h.le,h.base.putObj hl hc (λe=>absurd (hB _ e) (XV.2 hw)) o',h.nx.aL q (XP oQ),h.bbx.aL q (XP bO),h.cbx.aL q (XP iI),h.aL.iR q (λ_ _ e=>e) (λx hx e=>by have e:x=l:=e;omega),h.rg⟩
end
def my.step{T:FV}{w:Wo}{I:bF}{s:aX}{c:ak}{bb cb vb:Nat}{TU:Ox}{pre:List ry}{W:Wo}(hm:m=pre.length)(x:ry){r:Int}{st:aX}{u:Va}(hs:ku s c (m+1)=(r,st))(hr:0<=r/\r<4096)(hle:m+1<=c.ah.length)
  (hB:cS (λy=>T y\/y=vb) W I st) (hn:aq W vb 3 [u]) (hb:aq W bb 23 [li I.b]) (hcx:aq W cb 72 TU) (hc:aG (BS I) w W) (hv:w<=vb) (n1:bb≠vb) (n2:cb≠vb):
  my T w I s c bb cb vb TU (pre++[x]) (W.setCell (ol vb) (ac r)):=by
 have hl:(pre++[x]).length=m+1:=by rw[Qo,ZA,hm]
 refine⟨by rw[hl];exact hle,?_,?_,hb.az (p:=ol vb) n1 _,hcx.az (p:=ol vb) n2 _,hc.setCell (p:=ol vb) (λh=>absurd h (XV.2 hv)) _,?_⟩
 .rw[hl,hs];exact hB.set (p:=ol vb) (.inr rfl) _
 .rw[hl,hs];exact hn.set 0 _
 .rw[hl,hs];exact hr
def acg{w:Wo}{v:Va}{es:List aD}(h:Es w w v es)(hl:w.heap[l]? =some o)(hc:o.isCells=false)(o' :Obj):Es (w.putObj l o') (w.putObj l o').heap.size v es:=
 ⟨by rw[World.putObj_size];exact pF h.1 go Fd hl hc o',h.2⟩
def QG(T:FV)(w:Wo)(I:bF)(s:aX)(hB:cS T w I s)(c:ak)(A1 A2:GB)(m1 c1 m2 c2:Nat)(kG:jw w (BS I) (.agg #[ac c.ax,ac c.depth,am A1 m1 c1,am A2 m2 c2]) c)(hk:qo c)
  (hR:∀sh∈c.ah,∀n:Int,0<=n->n<4096->bC ⟨c.depth,n,sh.es⟩=true):
  Calls prog 154 #[li I.b,.agg #[ac c.ax,ac c.depth,am A1 m1 c1,am A2 m2 c2]] w (iF (ac (qh s c).1) λw' =>cS T w' I (qh s c).2/\aG (BS I) w w'/\(0<=(qh s c).1/\(qh s c).1<4096)):=by
 obtain⟨bv,sv,ps,he,g1,g2,g3,fc⟩:=kG.ex;obtain⟨rfl,rfl⟩: am A1 m1 c1=bv/\ am A2 m2 c2=sv:=zaR;have dh:ps.length=c.ah.length:=zdQ;have Nf:m2=ps.length:=by obtain⟨A,cx,e,-,-⟩:=Sl.form g3.s.sl;injection e
 have Az:m1=c.blocks.length:=by obtain⟨A,cx,e,-,-⟩:=g1.form;injection e
 have⟨fr,eo⟩:=eX c.ax;have⟨dp,eK⟩:=eX c.depth;rw[<-eo,<-eK];have Nx:=hB.at_.lt;have Hc:Af (qo c/\dp=c.depth/\ps.map Prod.fst=c.ah/\ps.length=c.ah.length/\m2=ps.length/\m1=c.blocks.length/\∀sh∈c.ah,∀n:Int,0<=n->n<4096->bC ⟨c.depth,n,sh.es⟩=true):=⟨hk,eK,fc,dh,Nf,Az,hR⟩;have HG:=iJ g1 g2 g3;have HB:=aa hB;have⟨W1,aW⟩:=eX ((w.alloc (.cells #[li I.b] 23)).alloc (.cells #[ac fr,ac dp,am A1 m1 c1,am A2 m2 c2] 72));have b1:ci w W1:=JQ;have X1:aq W1 w 23 [li I.b]:=by rw[aW];exact dx w _ _
 have Y1:aq W1 (w.heap.size+1) 72 [ac fr,ac dp,am A1 m1 c1,am A2 m2 c2]:=by rw[aW];exact cL w _ _
 obtain⟨W2,cE,Z2,b2⟩:=nW W1 [ac 0] 3;obtain⟨W3,cD,U3,b3⟩:=nW W2 [am A2 m2 c2] 70;have ej:=Mr W2 A2 m2 c2;rw[<-cD] at ej;have s1:W1.heap.size=w.heap.size+2:=zdP;have s2:W2.heap.size=w.heap.size+3:=by rw[cE];simp[s1]
 have s3:W3.heap.size=w.heap.size+4:=by rw[cD];simp[s2]
 have⟨bb,bO⟩:=eX w.heap.size;have⟨cb,iI⟩:=eX (w.heap.size+1);have⟨vb,oQ⟩:=eX W1.heap.size;have⟨Bx,j8⟩:=eX W2.heap.size;have cz:(w.alloc (.cells #[li I.b] 23)).heap.size=cb:=by rw[iI];simp
 rw[<-j8] at ej U3;rw[<-bO] at X1;rw[<-iI] at Y1;rw[<-oQ] at Z2;have uo:=aa ej;have HW:=aa aW.symm;have b23:=Pd b2 b3;have mO:=Pd b1 b23;have x3:W2.cell? (an cb 3)=some (am A2 m2 c2):=(Y1.on b2).cell rfl;have ID:Af (my T w I s c bb cb vb [ac fr,ac dp,am A1 m1 c1,am A2 m2 c2] [] W3):=⟨lm,by show cS _ W3 I (ku s c 0).2;rw[rR s c hk.kp.len];exact hB.more mO (λx hx=>hx.imp id λe=>Mx) (λx hx=>hx.elim (λe=>by have:=hB.lt x e;omega) (λe=>Mx)),by show aq W3 vb _ [ac (ku s c 0).1];rw[rR s c hk.kp.len];exact Z2.on b3,X1.on b23,Y1.on b23,aG.aZ mO,by show 0<=(ku s c 0).1/\(ku s c 0).1<4096;rw[rR s c hk.kp.len];exact⟨Qcp 0,(by decide:(0:Int)<4096)⟩⟩;have HL:=hI7 bO iI (by omega:vb=w.heap.size+2) (by omega:Bx=w.heap.size+3) s3 Nx mO;have HU:=aa U3;have HWs:=kH cE.symm bO.symm oQ.symm iI.symm;clear kG he g1 g2 g3 fc dh Az Nf eo eK Nx hB hk hR aW b1 X1 Y1 cE b2 Z2 cD b3 U3 ej s1 s2 s3 bO iI oQ j8 cz b23 mO;refine(Qdb (n:=3)).1 ?_;refine callsIn_of_wp_marks func154 rfl trivial ?_ rfl;simp only[ntmps154,QW,QF,Xq,Nat.reduceAdd,Nat.reduceSub,Xv,Xw,Xx,Xy,QZ,Qaj];refine Qhl.2 ?_;go_upto_region 1 with fail;rw[HW.o,HWs.q3,HWs.p2];go_upto_region 2 with fail;rw[HWs.p1,HWs.p3];go_wp2_with(go_at_call 200;refine uo.o.mono ?_;rintro e tj ⟨rfl,e3⟩;obtain rfl:=e3.symm);clear x3;refine(Qhl (n:=3)).1 ?_;refine Dp (α:=ry) (P:=prog) rfl Fd (gf:=220) (lb:= #[li Bx]) rfl trivial (enters_of func220 KJ rfl) IP (λ_=>rfl)
  (λk=>BS I k\/k=vb) ?hSl (Ow (λk=>(BS I k\/k=vb)\/W3.heap.size<=k/\k<=W3.heap.size+1) ps) (λpre=>pre.length=ps.length) (my T w I s c bb cb vb [ac fr,ac dp,am A1 m1 c1,am A2 m2 c2]) ?h0 ?hIp ?hit
  (λe W=>{tmps:= #[li I.b,.agg #[ac fr,ac dp,am A1 m1 c1,am A2 m2 c2],li bb,li cb,ac 0,li vb,ac e.i,li W,undef,undef,undef,ro cb 3,am A2 m2 c2,.func (.func 220) #[] #[li Bx],ac e.i,.agg #[io e.sh.depth,gc e.sh.next,am e.A e.n e.c],undef,undef,undef,undef,undef,undef,undef,undef,undef,undef,undef,undef,undef,undef,undef,undef,undef,undef,undef,undef,undef,undef,undef,undef,undef,undef,undef],defers:=[]})
  (λe W=>W.alloc (.cells #[io e.sh.depth,gc e.sh.next,am e.A e.n e.c] 79)) (λe W=>aF _ _) ?assign ?body ?done
 case hSl=>
  have hl:=HL.o;rintro x (h|h)
  .have:=hl.2.2.2.2.2.1 x h;omega
  .omega
 case h0=>exact λW hW=>ID.o.on hW
 case hIp=>exact λpre A l o o' h AS Ec hl=>by have hL:=HL.o;exact h.obj AS Ec Mx hL.2.2.2.2.2.1 Mx Mx Mx o'
 case hit=>
  intro l J W hW hJI hY Iu;have hL:=HL.o;have hs3:iP W3 (λk=>(BS I k\/k=vb)\/W3.heap.size<=k/\k<=W3.heap.size+1) (am A2 m2 c2) ps:=(HG.q2.apart (λx hx=>hx.elim (λhx=>hx.elim .inl (λhx=> .inr Mx)) (λhx=> .inr Mx))).on hL.2.2.2.2.2.2;exact Sq 2 Fd l Bx A2 m2 c2 ps _ W ((HU.o.on hW).cell rfl) (HU.o.on hW).lt (λh=>h.elim (λh=>h.elim (λh=>by have:=hL.2.2.2.2.2.1 _ h;omega) (λh=>Mx)) (λh=>Mx)) (hs3.on hW) Hc.p5 (by rw[Hc.p5,Hc.p4,<-Hc.p1.kp.len];exact Qh Hc.p1.kp.y7 Fd) J hY Iu
 case assign=>
  intro l e W K hK;unfold IP;gi_wp2;exact hK
 case body=>
  intro l pre x W0 o o' ec hI hl AS Ec cz;have hL:=HL.o;have aJ:=(Qy.1 AS).1;have F0:=ar W0 [io x.sh.depth,gc x.sh.next,am x.A x.n x.c] 79;have b0:=aF W0 (.cells #[io x.sh.depth,gc x.sh.next,am x.A x.n x.c] 79);have⟨V0,hV0⟩:=eX (W0.alloc (.cells #[io x.sh.depth,gc x.sh.next,am x.A x.n x.c] 79));have F1:aq V0 W0 79 [io x.sh.depth,gc x.sh.next,am x.A x.n x.c]:=by rw[hV0];exact F0
  rw[<-hV0] at b0|-;have pt:Ap (λy=>y=W0.heap.size) (am x.A x.n x.c):=Sl.ap ec.es.1 (λy hy e=>Mx);replace ec:=ec.on b0;have dK:=hI.on b0;have hBT:=hI.base.more (T' :=λy=>(T y\/y=vb)\/y=W0.heap.size) b0 (λy hy=>hy.imp id λe=>Xg e.symm) (λy hy=>hy.elim (λe=>Qn (hI.base.lt y e) b0.size) (λe=>by rw[e];exact F1.lt));have UJ:=(b0.block l aJ).trans AS;have Od:=hBT.putObj UJ Ec (λe=>by have:=hL.2.2.2.2.2.1 _ e;omega) o';have WG:=dK.obj UJ Ec Mx hL.2.2.2.2.2.1 Mx Mx Mx o';have eE:=acg ec.es UJ Ec o';have F6:=F1.aL (fY (λy=>y=l) V0 l o' rfl) (XO aJ);have⟨W6,jc⟩:=eX (V0.putObj l o');obtain⟨xb,eD⟩:∃y,y=W0.heap.size:=⟨_,rfl⟩;rw[<-jc] at WG eE F6 Od|-;rw[<-eD] at F6 Od pt|-;have⟨m,hm⟩:=eX pre.length;have hj:=ec.at_;have hit:=ec.it;have aaY:=ec.ok.2.2;obtain⟨i,sh,A,n,cc⟩:=x;dsimp only at hj hit eE F6 pt aaY|-;have ta:c.ah[i]? =some sh:=by rw[<-Hc.p3,Qt,hit];rfl
  have JL:i<m1:=by rw[Hc.p6,Hc.p1.kp.len,<-Hc.p4];omega
  have⟨bi,hbi⟩:=eX (c.blocks.getD i 0);have uA:c.blocks[i]? =some bi:=by rw[hbi,Qe,Qf (by rw[<-Hc.p6];exact JL)];rfl
  have e8:=Hc.p1.kp.pos bi (Qi uA);obtain⟨b1,o1,c1',hv,-,-,l1,q1⟩:=HG.p1.cells (by rw[<-Hc.p6];omega);obtain rfl:A1=some (an b1 o1):=No;have q2:W6.cell? (an b1 (o1+i))=some (ac bi):=by rw[WG.aL.cell (p:=an b1 (o1+i)) l1 (HG.p2 b1 o1 m1 c1 Mx rfl),hbi];exact q1 i (by rw[<-Hc.p6];exact JL)
  have⟨nx,fu⟩:=eX ((ku s c m).1);have⟨st,cO⟩:=eX ((ku s c m).2);have Yw:ku s c (m+1)=nn c.depth (bi,sh) (nx,st):=by rw[fu,cO];exact KQ (by rw[hm,<-Hc.p4];exact hj) uA ta
  obtain⟨-,y1,y2⟩:=ra WG.cbx;have z0:=WG.nx.j0;have zf:=WG.nx.free 0;have u0:=WG.bbx.j0;rw[<-hm,<-fu] at z0;have i0:=Xh i;have i1:(i:Int)<m1:=Mx;have Uk:=aa WG;rw[<-hm,<-cO] at Od;have HBT:=aa Od;have HF:=aa F6;have HE:=iJ eE pt aaY;have HX:=ank hm Yw fu cO (by rw[<-Hc.p4];omega:m+1<=c.ah.length) e8.1 e8.2 (by omega:vb<xb) (by omega:w.heap.size<=xb) (Qi ta) eD;clear ec aaY pt hI dK hBT Od AS Ec cz hL aJ F0 b0 F1 hV0 UJ WG eE F6 jc eD hm hj hit ta JL hbi uA e8 hv l1 q1 fu cO Yw hl;by_cases hz:bi=0
  .subst hz;have Ng:=Hc.p1.d8;have w8:IntKind.u8.wrap (dp:Int)=dp:=(by unfold IntKind.wrap;simp[IntKind.signed,IntKind.bits];have:=Hc.p2;omega);have TA:=Uk.o.rg;rw[<-HX.p1,<-HX.p3] at TA;have w32:IntKind.u32.wrap nx=nx:=ww;have y1d:=y1;have z0d:=z0;have FD:=HF.o;obtain⟨c0d,c1d⟩:=gh FD;obtain⟨f0d,f1d⟩:=fR2 FD;obtain⟨c0e,c1e⟩:=gh HF.o;obtain⟨f0e,f1e⟩:=fR2 HF.o;have hvx:=XO HX.p8;have avK:=Xm hvx;have wU:¬((an xb 1):Addr)=(ol xb):=Sv;have hX:=HX.o;have hL:=HL.o;have⟨W7,Eh⟩:=eX (((W6.setCell (ol xb) (io dp)).setCell (an xb 1) (gc nx)).drew);have q7:aG (λy=>y=xb) W6 W7:=(by rw[Eh];exact(((aG.refl (λy=>y=xb) W6).setCell (p:=ol xb) (λ_=>rfl) _).setCell (p:=an xb 1) (λ_=>rfl) _).drew);have X7:aq W7 xb 79 [io dp,gc nx,am A n cc]:=(by rw[Eh];exact(HF.o.set 0 (io dp)).set 1 (gc nx));have bt7:=HBT.o.aL (q7.mono λy _ e=> .inr e);have nx7:=Uk.o.nx.aL q7 (XP hX.2.2.2.2.2.2.2.1);have bb7:=Uk.o.bbx.aL q7 Mx;have cb7:=Uk.o.cbx.aL q7 Mx;have ch7:=Uk.o.aL.iR q7 (λ_ _ e=>e) (λy hy e=>by have e:y=xb:=e;omega);have es7:Es W7 W7 (am A n cc) sh.es:=⟨Sl.more (Sl.aL HE.o.1.1 q7 go HE.p2) q7.size,HE.o.1.2⟩;have⟨eL,tz⟩:=eX (encS ⟨c.depth,nx,sh.es⟩);have tF:aI (c.depth:Int):=⟨Xh _,Mx⟩;have jy:=LX ⟨c.depth,nx,sh.es⟩ tF HE.q2;have hEn:=CS W7 ⟨c.depth,nx,sh.es⟩ (am A n cc) es7 tF ⟨TA.1,Qhp TA.2 Fd⟩;rw[<-tz] at jy;have HEn:Af (Calls prog 56 #[.agg #[io dp,gc nx,am A n cc]] W7 (Made W7 eL)):=by
    rw[Hc.p2];refine hEn.mono λe w' h=> ?_;rcases h with⟨-,h⟩|⟨h,-⟩
    .rw[tz];exact h
    .rw[Hc.q6 sh hX.2.2.2.2.2.2.2.2.2.1 nx TA.1 TA.2] at h;cases h
   have⟨r1,Wj⟩:=eX ((st.put eL).1);have⟨r2,ZL⟩:=eX ((st.put eL).2.1);have⟨Er,zh⟩:=eX ((st.put eL).2.2);have Uj:Af (∀(W8:Wo) (g:Nat),ci W7 W8->dn W8 g eL->W7.heap.size<=g->Calls prog 57 #[li I.b,el g 0 128 128] W8 (iF (.tuple #[ac r1,ac r2]) λw' =>cS (λy=>(T y\/y=vb)\/y=xb) w' I Er/\aG (BS I) W8 w')):=λW8 g hW ho hg=>(by rw[Wj,ZL,zh];exact vE _ W8 I st (bt7.on hW) _ _ (tT ho jy.1 jy.2) (jD λe=>absurd (bt7.at_.lt _ e) (XV.2 hg)));have fc:ku s c (m+1)=(r1,Er):=(by rw[hX.2.1,Wj,zh,tz];unfold nn;rw[Xo rfl]);have ZH:=KP bt7.at_ eL;rw[<-Wj] at ZH;have HW7:=aa Eh.symm;have H7:=hI7 q7 nx7 bb7 cb7 ch7 fc ZH;obtain⟨s0,s1,s2⟩:=ra X7;clear Ng TA hX hL Eh q7 X7 bt7 nx7 bb7 cb7 ch7 es7 tz tF jy hEn Wj ZL zh fc ZH;gi_upto_region 7 with fail;have hm:prog.follows .mixedOrders=true:=KJ;gi_region_with_o (fail);all_goals
    rw[HW7.o]
    gi_wp2_with (first
     |(refine⟨trivial,?_⟩;gi_at_call 56;refine(CallsIn.inRound l (Qdb.2 HEn.o)).mono ?_;rintro e W8 ⟨g8,TD,rfl,o8,b8⟩;have abC:=aa (Uj.o W8 g8 b8 o8 TD);have B8:=aa b8;have ub8:=(H7.p3.on b8).j0;clear TD o8 b8)
     |(refine⟨trivial,?_⟩;gi_at_call 57;refine(CallsIn.inRound l (Qdb.2 abC.o)).mono ?_;rintro e W9 ⟨rfl,bt9,c9⟩;have nb:∀y,w.heap.size<=y->¬BS I y:=(λy hy e=>absurd (HL.p6 y e) (XV.2 hy));have N9:=aa ((H7.p2.on B8.o).aL c9 (nb _ zbH));have v9:=N9.o.j0;have f9:=N9.o.free 0;have BT9:=aa bt9;have C9:=aa c9;clear bt9 c9 nb))
    have hL:=HL.o;have hX:=HX.o;have nb:∀y,w.heap.size<=y->¬BS I y:=λy hy e=>absurd (hL.2.2.2.2.2.1 y e) (XV.2 hy);have c89:=(aG.aZ B8.o).trans C9.o;refine⟨?_,my.step hX.1 _ H7.p6 H7.q6 hX.2.2.2.2.1 (BT9.o.mono λy hy=> .inl hy) N9.o ((H7.p3.on B8.o).aL C9.o (nb _ Mx)) ((H7.p4.on B8.o).aL C9.o (nb _ Mx)) (H7.p5.trans c89) Mx Mx Mx⟩;refine aG.setCell ?_ (p:=ol vb) (λ_=> .inl (.inr rfl)) _;exact H7.p1.iR c89 (λy _ e=> .inr (Xg e.symm)) (λy _ e=> .inl (.inl e))
  .gi_wp2;have hL:=HL.o;have hX:=HX.o;refine⟨((aG.refl _ W6).setCell (p:=ol vb) (λ_=> .inl (.inr rfl)) _),my.step hX.1 _ (by rw[hX.2.1];unfold nn;exact Xd hz) ⟨hX.2.2.2.2.2.1,hX.2.2.2.2.2.2.1⟩ hX.2.2.2.2.1 (HBT.o.mono λy hy=> .inl hy) Uk.o.nx Uk.o.bbx Uk.o.cbx Uk.o.aL Mx Mx Mx⟩
 case done=>
  rintro D W pre hD dh hI hK;have hL:=HL.o;have bm:ku s c pre.length=qh s c:=by rw[dh,Hc.p4];exact Qk s c
  have⟨rv,ZG⟩:=eX ((qh s c).1);have z0:=hI.nx.j0;rw[bm,<-ZG] at z0;have Hrv:=aa ZG;have hB2:=hI.base;rw[bm] at hB2;have hrg:=hI.rg;rw[bm] at hrg;have px:Af (cS T w I s->cS (λy=>T y\/y=vb) W I (qh s c).2/\aG (BS I) w W):=λ_=>⟨hB2,hI.aL⟩;have HRg:=aa hrg;have HD:=aa hD;have HK:=aa hK;clear hI hK hD dh hL hB2 bm ZG hrg;go_wp2_with fail;refine⟨Sv,.inl ⟨_,_,rfl,run_takeDeferred HK.o,?_⟩⟩;refine⟨_,results_tmp (t:=4) rfl _ _ _,by rw[<-Hrv.o];rfl,?_,?_,HRg.o⟩
  .exact((px.o HB.o).1.putObj HK.o rfl (λe=>by have:=HL.p6 _ e;have:=HL.o;have:=HD.o;omega) _).mono λy hy=> .inl hy
  .exact(px.o HB.o).2.iR (fY (λx=>x=D) W D _ rfl) (λ_ _ e=>e) (λx hx e=>by have e:x=D:=e;have:=HL.o;have:=HD.o;omega)
def vQ(w:Wo)(v u:Va)(es fs:Fr)(h:Ns w w .u16 v es)(h' :Ns w w .u16 u fs)(hl:es.length<=100000):
  Calls prog 152 #[v,u] w (iF (.bool (decide (es=fs))) λw' =>ci w w') :=by
 obtain⟨A,c,rfl,-,-⟩:=h.form;obtain⟨A',d,rfl,-,-⟩:=h'.form;have⟨n,hn⟩:=eX es.length;have⟨n',sf⟩:=eX fs.length;rw[<-hn,<-sf];by_cases jX:n=n'
 .subst jX;have H:=aa h;have H' :=aa h';have Hn:=iJ hn sf (by omega:n<=100000);clear h h' hl hn sf;go_in;go_wp2;go_loopw [13] (λiv wr=>∃k:Nat,iv= ac k/\Af (k<=n/\es.take k=fs.take k/\ci w wr)) (λiv _=>n - (intOf iv).toNat)
  .exact zgb
  .obtain⟨k,rfl,HR⟩:=hrel;by_cases hk:k<n
   .have bQ:k<es.length:=(by rw[<-Hn.p1];exact hk);have zk :k<fs.length:=Hn.p2▸hk;obtain⟨b,o,c',hv,-,-,bO,aH⟩:=H.o.cells (QO lm bQ);obtain rfl:A=some (an b o):=No;obtain⟨b',o',d',mQ,-,-,tu,uR⟩:=H'.o.cells (QO lm zk);obtain rfl:A' =some (an b' o'):=zcr;have q0:=aH k bQ;have p0:=uR k zk;have⟨x,hx⟩:=eX (es.getD k 0);have⟨y,hy⟩:=eX (fs.getD k 0);have oP:es[k]? =some x:=zag;have Sz:fs[k]? =some y:=(by rw[hy,Qe,Qf zk];rfl);rw[<-hx] at q0;rw[<-hy] at p0;have z0:=(HR.q2.cell (p:=an b (o+k)) bO).trans q0;have y0:=(HR.q2.cell (p:=an b' (o' +k)) tu).trans p0;have cU:=aa HR.o;have HX:=iJ oP Sz hk;obtain⟨u1,u2,u3⟩:=bR hk Hn.q2 Fd;have Hu:=aa u1;clear hv bO aH q0 hx oP HR hk bQ u1 mQ tu uR p0 hy Sz zk;by_cases M9:x=y
    .have Hxy:=aa M9;subst M9;go_upto_region 6 with fail;go_quiet (fail);have HD:Af (∀q,ci w (wr.drewN q)):=λq=>Pd cU.q2 (below_drewN (Xj wr wr) q);go_wp2;refine⟨⟨k+1,yL,HX.q2,(uT cU.p2 HX.p1 HX.p2).2 rfl,HD.o _⟩,So⟩
    .have HT:Af (decide (es=fs)=false):=(by refine Xe λhe=> ?_;have h2:=HX.p1;rw[he,HX.p2] at h2;exact M9 (Qr h2).symm);go_upto_region 6 with fail;go_quiet (fail);have HD:Af (∀q,ci w (wr.drewN q)):=λq=>Pd cU.q2 (below_drewN (Xj wr wr) q);go_wp2;(all_goals(try rw[Qv]));(all_goals go_ret);all_goals exact⟨IT,HD.o _⟩
   .have cH:=QE HR.p1 (QC hk);have HT:Af (decide (es=fs)=true):=(by have h1:=HR.p2;rw[cH,Qj (Xg Hn.p1.symm),Qj (Xg Hn.p2.symm)] at h1;exact Xa h1);have HL:=aa HR.q2;subst cH;clear HR hk;go_wp2;(try rw[Qv]);exact zfX
 .have HT:Af (decide (es=fs)=false):=Xe λhe=>jX (by rw[hn,sf,he]);have Wp:¬(n:Int)=n' :=λh=>jX (Qgv h);clear h h' hl hn sf jX;go_in;go_wp2;all_goals(try rw[Qv])
  all_goals go_ret
  all_goals exact⟨IT,pi⟩
def Gm(w:Wo)(v:Va)(l:Fr)(h:Ns w w .u16 v l)(hl:l.length<=100000)(x:Int):
  Calls prog 198 #[v,pK x] w λr w' =>(∃i:Int,r= .returned (ac i)/\decide (0<=i)=l.contains x)/\ci w w' :=by
 obtain⟨A,c,rfl,-,-⟩:=h.form;have⟨n,hn⟩:=eX l.length;have⟨T,hT⟩:=eX (l.contains x);rw[<-hT];have H:=aa h;have Hn:=iJ hn (by omega:n<=100000) hT;rw[<-hn];clear h hl hn hT;go_in;go_wp2;go_loopw [8] (λiv wr=>∃k:Nat,iv= ac k/\Af (k<=n/\x∉l.take k/\ci w wr)) (λiv _=>n - (intOf iv).toNat)
 .exact⟨0,rfl,⟨lm,QV,pi⟩⟩
 .obtain⟨k,rfl,HR⟩:=hrel;by_cases hk:k<n
  .have bQ:k<l.length:=(by rw[<-Hn.p1];exact hk);obtain⟨b,o,c',hv,-,-,bO,aH⟩:=H.o.cells (QO lm bQ);obtain rfl:A=some (an b o):=No;have⟨y,hy⟩:=eX (l.getD k 0);have Sz:l[k]? =some y:=(by rw[hy,Qe,Qf bQ];rfl);have q0:=aH k bQ;rw[<-hy] at q0;have z0:=(HR.q2.cell (p:=an b (o+k)) bO).trans q0;have cU:=aa HR.o;have HX:=dK Sz hk;obtain⟨u1,u2,u3⟩:=bR hk Hn.p2 Fd;have Hu:=aa u1;clear hv bO aH q0 hy Sz HR hk bQ u1;by_cases M9:x=y
   .have HTt:Af (decide ((0:Int)<=k)=T):=(by show _=_;rw[Hn.q2,Xa (Xh k)];symm;rw[Qga];rw[M9];exact Qi HX.p1);subst M9;go_wp2;(all_goals(try rw[Qv]));(all_goals go_ret);all_goals exact⟨⟨k,rfl,HTt.o⟩,cU.q2⟩
   .go_wp2;refine⟨⟨k+1,yL,⟨HX.q1,λhq=> ?_,cU.q2⟩⟩,by first|exact al HX.q1|(rw[Hu.o];exact al HX.q1)⟩;rw[aA l k y HX.p1] at hq;obtain hq|hq:=Qz.1 hq
    .exact cU.p2 hq
    .exact M9 (Qx.1 hq)
  .have cH:=QE HR.p1 (QC hk);have bm:=HR.p2;rw[Qj zaQ] at bm;have HTf:Af (decide ((0:Int)<= -1)=T):=(by show _=_;rw[Hn.q2];symm;show _=false;rw[Xf];intro ha;exact bm (by rw[Qga] at ha;exact ha));have HL:=aa HR.q2;subst cH;clear HR hk bm;go_wp2;(try rw[Qv]);exact zfu
def kE(w:Wo)(v:Va)(l:Fr)(h:Ns w w .u16 v l)(hl:l.length<=100000)(x:Int):
  Calls prog 151 #[v,pK x] w (iF (.bool (l.contains x)) λw' =>ci w w') :=by
 have⟨R,hR⟩:=eX (l.contains x);have HI:=Gm w v l h hl x;rw[<-hR] at HI|-;have HI:=aa HI;obtain⟨A,c,rfl,-,-⟩:=h.form;have⟨n,hn⟩:=eX l.length;rw[<-hn] at HI|-;clear h hl hn hR;go_in;go_wp2_with(go_at_call 198;refine HI.o.mono ?_;rintro e W2 ⟨⟨i,rfl,hi⟩,b2⟩;have B2:=aa b2;clear b2);go_ret;exact⟨rfl,B2.o⟩
def rS(w:Wo)(v:Va)(l:Fr)(h:Ns w w .u16 v l)(hl:l.length<=10000)(i:Nat)(hi:61*i<l.length):
  Calls prog 150 #[v,ac i] w λe w' =>(∃v',e= .returned v'/\Ns w w .u16 v' (bG l i))/\w=w' :=by
 obtain⟨A,c,rfl,jb,pk⟩:=h.form;have⟨q,hq⟩:=eX (min (61*i+61) l.length);obtain⟨b,o,rfl,hs⟩:=Fh h (61*i) q Mx Mx hi;have hp:(l.drop (61*i)).take (q - 61*i)=bG l i:=by
  unfold bG;by_cases h2:q=61*i+61
  .rw[h2,Qbe]
  .rw[Qj zbk,Qj zbk]
 rw[hp] at hs;have HS:=aa hs;have⟨n,hn⟩:=eX l.length;rw[<-hn] at jb|-;have⟨p,tA⟩:=eX (61*i);rw[<-tA] at HS;have w1:wrap64 ((i:Int)*61)=p:=vW;have w2:wrap64 ((i:Int)+1)=i+1:=vW;have w3:wrap64 (((i:Int)+1)*61)=(p:Int)+61:=vW;have hpq:min ((p:Int)+61) n=q:=Mx;have h1:(0:Int)<=p:=Mx;have h2:(p:Int)<=q:=Mx;have h3:(q:Int)<=c:=Mx;have h4:p<=q:=Mx;have h5:q<=c:=Mx;have h6:¬c=p:=Mx;exact zfc
variable{cells:List aM}{dep:Nat}{sv gv:Va}
def ja(c:aM):List Va:=[.int .i64 c.block,.int .i64 c.depth,.int .i64 c.ao]
def ew(cells:List aM):List Va:=cells.flatMap ja
def di(cells:List aM)(dep:Nat)(sv pv gv:Va):List Va:=ew cells++[.int .u8 dep,sv,pv,gv]
def eU(cells:List aM):(ew cells).length=3*cells.length:=by rw[ew,Qcj];have:(cells.map λa=>(ja a).length)=cells.map λ_=>3:=Zj λx _=>rfl;exact zfz
def iD:∀(cells:List aM) (n:Nat) (c:aM),cells[n]? =some c->∀j,j<3->(ew cells)[n*3+j]? =(ja c)[j]?
 |[],_,_,h,_,_=>zaF
 |a::r,0,c,h,j,hj=>by
  simp at h;subst h;rw[ew,Xz,QR,QH,QN (by simpa[ja] using hj)]
 |a::r,n+1,c,h,j,hj=>by have:=iD r n c EQ j hj;unfold ew at this|-;rw[QH,QM (by simp[ja];omega),<-this];congr 1;simp[ja];omega
def nB:∀(cells:List aM) (n:Nat) (c c' :aM) (j:Nat) (u:Va),cells[n]? =some c->(ja c).set j u=ja c'->j<3->(ew cells).set (n*3+j) u=ew (cells.set n c')
 |[],_,_,_,_,_,h,_,_=>zaF
 |a::r,0,c,c',j,u,h,he,hj=>by
  simp at h;subst h;unfold ew;rw[Xz,QR,QH,Qcs _ _ (by simpa[ja] using hj),he,Qd,QH]
 |a::r,n+1,c,c',j,u,h,he,hj=>by have:=nB r n c c' j u EQ he hj;unfold ew at this|-;rw[QH,ZB _ _ (by simp[ja];omega),Qc,QH,<-this];congr 2;simp[ja];omega
section
def gT(n:Nat)(c:aM)(h:cells[n]? =some c)(j:Nat)(hj:j<3):(di cells dep sv pv gv)[n*3+j]? =(ja c)[j]? :=by have hn:=(Ql.1 h).1;rw[di,QN zcF,iD cells n c h j hj]
def bq(hl:cells.length=256)(j:Nat):(di cells dep sv pv gv)[768+j]? =[io dep,sv,pv,gv][j]? :=by rw[di,QM zcF,eU,hl,show 768+j - 3*256=j by omega]
def il(n:Nat)(c c' :aM)(j:Nat)(u:Va)(h:cells[n]? =some c)(he:(ja c).set j u=ja c')(hj:j<3):(di cells dep sv pv gv).set (n*3+j) u=di (cells.set n c') dep sv pv gv:=by have hn:=(Ql.1 h).1;unfold di;rw[Qcs _ _ zcF,nB cells n c c' j u h he hj]
def fC(hl:cells.length=256)(j:Nat)(u:Va):(di cells dep sv pv gv).set (768+j) u=ew cells++[io dep,sv,pv,gv].set j u:=by rw[di,ZB _ _ zcF,eU,hl,show 768+j - 3*256=j by omega]
end
structure ahq(w:Wo)(pb gb:Nat)(cells:List aM)(dep N:Nat)(pv gv:Va)(k:Nat)(wr:Wo):Prop where
 own:aq wr pb 154 (di cells dep (.slice (some ⟨gb,0,none⟩) N N) pv gv)
 row:aq wr gb 30 (((dS dep cells).take k++List.replicate (N - k) 0).map (.int .u16))
 aL:aG (λx=>x=pb) w wr
def fe(dep:Nat)(cells:List aM):(dS dep cells).length=2^dep:=by simp[dS]
def C8{w:Wo}{base g:Nat}{e:Fy}{k:IntKind}{xs:Fr}(h:aq w g e (xs.map (.int k)))(hb:base<=g)(hm:xs.length<=maxLen):aB w base e k (el g 0 xs.length xs.length) xs:=
 ⟨Sv,.inr ⟨g,xs.length,_,rfl,hb,h,go,hm,Sv,by rw[Qj Sv]⟩⟩
def GH{dep N k:Nat}{cells:List aM}{m:Nat}{c:aM}(hN:N=2^dep)(hk:k<N)(hm:m=k*2^(8 - dep))(hc:cells[m]? =some c):
  (((dS dep cells).take k++replicate (N - k) (0:Int)).map (Value.int .u16)).set k (pK c.block)=((dS dep cells).take (k+1)++replicate (N - (k+1)) (0:Int)).map (.int .u16):=by
 have hx:(dS dep cells)[k]? =some c.block:=by rw[dS,Qt,Qam (hN▸hk)];show some (cells.getD (k*2^(8 - dep)) _).block=_;rw[<-hm,Qe,hc];rfl
 have hl:((dS dep cells).take k).length=k:=by rw[Qu,fe,<-hN];omega
 rw[<-Qem,aA _ _ _ hx,ZB _ _ zbc,hl,XE,QY,show N - k=(N - (k+1))+1 by omega,Qcy];rfl
def yH(w:Wo)(pb:Nat)(cells:List aM)(dep:Nat)(sv pv gv:Va)(h:aq w pb 154 (di cells dep sv pv gv))(hl:cells.length=256)(hd:dep<=8)(hb:∀c∈cells,0<=c.block/\c.block<65536):
  Calls prog 149 #[pb] w λr w' =>∃tZ,r= .returned (.tuple #[])/\aq w' pb 154 (di cells dep tZ pv gv)/\aB w' w 30 .u16 tZ (dS dep cells)/\aG (λx=>x=pb) w w' :=by
 have⟨N,hN⟩:=eX (2^dep);have sG:N<=256:=by rw[hN];exact Qcr Fd hd
 have⟨W1,aW⟩:=eX (w.alloc (.cells (replicate N (pK 0)).toArray 30));have⟨gb,EA⟩:=eX w.heap.size;have yX:(Instr.makeSlice 64 (ac N) (ac N)).run prog w= .ok (el gb 0 N N) W1:=by have:=eV underlying64 Jo (eC .u16 0) Fd N Mx w;rw[aW,EA];exact this
 have amL:=h.cell (bq hl 0);have Tp:min dep 64=dep:=Zh Mx;have k1:wrap64 ((2:Int)^dep)=(N:Int):=by rw[show((2:Int)^dep)=((2^dep:Nat):Int) from(Qdn 2 dep).symm,<-hN];exact vW
 have d0:=Xh dep;have b1:ci w W1:=zab;have X1:=h.on b1;have G1:aq W1 gb 30 (replicate N (pK 0)):=by rw[aW,EA];exact ar w _ _
 have aaS:=X1.cell (bq hl 1);have anr:=X1.free 769;have tz:pb<gb:=by rw[EA];exact h.lt
 have X2:aq (W1.setCell (an pb 769) (el gb 0 N N)) pb 154 (di cells dep (el gb 0 N N) pv gv):=by have:=X1.set 769 (el gb 0 N N);rw[show(769:Nat)=768+1 from rfl,fC hl] at this;exact this
 have G2:=G1.az (p:=an pb 769) (XO tz) (el gb 0 N N);have c2:aG (λx=>x=pb) w (W1.setCell (an pb 769) (el gb 0 N N)):=(aG.aZ (S:=λx=>x=pb) b1).setCell (p:=an pb 769) (λ_=>rfl) _;have⟨W2,cE⟩:=eX (W1.setCell (an pb 769) (el gb 0 N N));rw[<-cE] at X2 G2 c2;have rj:Af (ahq w pb gb cells dep N pv gv 0 W2):=⟨X2,by rw[Zq,QZ,Nat.sub_zero,Qdg];exact G2,c2⟩;have af5:=X2.cell (bq hl 1);have Tb:=aa cE.symm;have Hg:=dK tz (by rw[EA];exact go:w.heap.size<=gb);have HN:=Ba hN sG hl hd hb;have⟨E,hE⟩:=eX (8 - dep);have e1:wrap64 (8 - (dep:Int))=(E:Int):=vW;have e2:=Zh Mx;have e3:=Xh E;have agk:N*2^E=256:=by rw[hN,hE,<-Qch,show dep+(8 - dep)=8 by omega]
 have HE:=dK hE agk;clear h hl hd hb hN sG aW EA b1 X1 G1 X2 G2 c2 cE tz hE agk;go_in;go_upto_region 1 with fail;rw[Tb.o];clear amL yX anr aaS k1 Tp;go_wp2_with fail;clear af5;go_loopw [20] (λiv wr=>∃k:Nat,iv= ac k/\Af (k<=N/\ahq w pb gb cells dep N pv gv k wr)) (λiv _=>N - (intOf iv).toNat)
 .exact zfB
 .obtain⟨k,rfl,HR⟩:=hrel;by_cases hk:k<N
  .have⟨m,hm⟩:=eX (k*2^E);have ON:m<256:=(by rw[hm,<-HE.q1];exact Qhx hk (Qba _));have q1:wrap64 ((k:Int)*2^E)=(m:Int):=(by rw[show((k:Int)*2^E)=((k*2^E:Nat):Int) by rw[Int.natCast_mul,Qdn];rfl,<-hm];exact vW);obtain⟨v1,v2,v3,v4,v5⟩:=Pt (x:=k) HN.p4 HE.p1 hm ON;have q2:(m:Int)<256:=Mx;have q3:=Xh m;obtain⟨c,hc⟩:∃c,cells[m]? =some c:=⟨_,Qf (by rw[HN.p3];exact ON)⟩;have iI:=HN.q4 c (Qi hc);have⟨bk,ej⟩:=eX c.block;have q4:IntKind.u16.wrap bk=bk:=(by rw[ej];exact ww);have bN:=HR.q1.own;have⟨Wd,dJ⟩:=eX wr.drew;have AG:=aa dJ.symm;have Uy:aq Wd pb 154 (di cells dep (el gb 0 N N) pv gv):=(by rw[dJ];exact bN);have aaQ:aq Wd gb 30 (((dS dep cells).take k++replicate (N - k) 0).map (.int .u16)):=(by rw[dJ];exact HR.q1.row);have avD:=Uy.cell (bq HN.p3 0);have avC:=Uy.cell (bq HN.p3 1);have zc:Wd.cell? (an pb (m*3))=some (ac bk):=(by rw[ej];exact Uy.cell (gT m c hc 0 Fd));have zf:=aaQ.free k;have zg:Wd.cell? (an gb k)=some (pK 0):=aaQ.cell (by rw[Qt,QM (by rw[Qu,fe,<-HN.p1];omega),Zr,Xo (by rw[Qu,fe,<-HN.p1];omega)];rfl);have cU:=aa HR.q1;have HX:=kH hk hc ej hm;have Nt:=HN.p2;obtain⟨u1,u2,u3⟩:=bR hk Nt Fd;have Hu:=aa u1;clear hm ON hc iI ej bN HR hk u1 Nt dJ Uy aaQ;go_upto_region 4 with fail;refine Qat 23 KJ KJ ?_;simp only[Zw,Zq,Zk,Zl];change wpStill _ _ (World.drew wr) (λa' =>wpList _ _ _ _ a' (World.drew wr)) _ _;rw[AG.o];(repeat still_step);refine Qdf ?_;go_wp2_with fail;refine⟨⟨k+1,yL,HX.p1,?_⟩,CC⟩;have o1:aq Wd pb 154 (di cells dep (el gb 0 N N) pv gv):=(by rw[<-AG.o];exact cU.o.own);have o2:aq Wd gb 30 (((dS dep cells).take k++replicate (N - k) 0).map (.int .u16)):=(by rw[<-AG.o];exact cU.o.row);have o3:aG (λx=>x=pb) w Wd:=(by rw[<-AG.o];exact cU.o.aL.drew);have o4:=o2.set k (pK bk);rw[HX.p3,GH HN.p1 HX.p1 (by rw[<-HE.p1];exact HX.q3) HX.p2] at o4;rw[HX.p3];exact⟨o1.az (p:=an gb k) (XP Hg.p1) _,o4,o3.setCell (p:=an gb k) (λh=>absurd h (XV.2 Hg.q1)) _⟩
  .have cH:=QE HR.p1 (QC hk);have cU:=aa HR.q1;subst cH;clear HR hk;go_wp2_with fail;go_end0;have h1:=cU.o.row;rw[XE,Qcx,Zi,Qj (by rw[fe,<-HN.p1];exact go)] at h1;have h2:=C8 h1 Hg.q1 (by rw[fe,<-HN.p1];have:=HN.p2;unfold maxLen;omega);rw[fe,<-HN.p1] at h2;exact⟨_,rfl,cU.o.own,h2,cU.o.aL⟩
end
end Go.Proofs.YtjjomjobllcleaaGreat

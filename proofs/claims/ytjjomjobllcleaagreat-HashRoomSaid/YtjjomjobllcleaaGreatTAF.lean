/- HashRoom, part 6 of 8: parts of its walks and laws, each true as it stands. -/
import Derived.Deep.Strs
import Derived.OpenShut
import Derived.ProofKit
import Derived.ShutString
import Derived.Test.YtjjomjobllcleaaGreatRows
import Derived.Test.YtjjomjobllcleaaGreatTAE
set_option maxHeartbeats 16000000
set_option maxRecDepth 100000
set_option linter.all false
namespace Go.Proofs.YtjjomjobllcleaaGreat
open Go.Proofs.Tryz
open List (replicate range)
open Go.RowKit
section
variable{s:aX}{dep:Nat}{ae:List (Nat × Int)}{at_:Fr}{cs:List ak}
def begun_all(n:Nat)(h0:16<=n)(h1:n<=4096):∃s b1 b2,BegS n s b1 b2/\∀w:Wo,Calls prog 4 #[ac n] w λe w' =>∃I,e= .returned (.tuple #[I.b,.bool true])/\cR w' I s/\(∀x,BS I x->w<=x)/\ci w w' :=by
 obtain⟨s0,fg,hs⟩:=bare_plain h0 h1;obtain⟨b1,b2,s1,s2,s',m,hb⟩:=make_beg hs;refine⟨s',b1,b2,hb,λw=>begun_gen w n h0 h1 (s0:=s0) (sB:=s') (fm_ok h0 h1) (λW d pl hd=> ?_) (λW I hI=> ?_)⟩
 .have TH:cF W d pl s0.bl:=by rw[fg];exact hd
  have h:=Ld W d pl s0.bl TH _ _ _ _ hs.opn;rw[hs.eq] at h;exact h
 .rw[m.res];exact Lq W I s0 hI hs.inv.live (hs.root 3 Fd Fd) hs.room b1 b2 s1 s2 m.e1 m.e2 m.r1 m.r2 m.live
def HashS.ck(h:HashS s dep ae at_ cs):CK s dep ae at_ cs:=⟨h.inv.inv.live,h.inv.ok,h.inv.ch⟩
def HashS.add(h:HashS s dep ae at_ cs){e:aD}(hu:bI e.print)(h0:0<e.block):YV s dep ae at_ cs e:=λc hc bT hn=>by have hk:=h.inv;obtain⟨A,c',B,iH,kJ,hi⟩:=hk.chain (beg_lt hu);rw[hc] at kJ;obtain rfl:c=c' :=Qr kJ;subst iH;have aJ:=hk.inv.tok.n1;have he:tw e:=⟨hu,Mx,Mx⟩;obtain⟨hw,hf,hp⟩:=added_swap hk he Mx bT hi;obtain⟨g1,g2⟩:=added_ft hk he Mx bT hi;refine⟨g1,g2,λc' TJ sh ta n _ h2=>(hw.ch c' TJ).OA ta h2,λhr=>swap_fits hk hw Mx⟩
variable{g n:Nat}
structure HsG(n g:Nat)(s:aX)(dep:Nat)(ae:List (Nat×Int))(at_:Fr)(cs:List ak):Prop where
 hash:HashS s dep ae at_ cs
 len:s.t.len=n
 gen:s.kept.gen<=1+g
def BegS.hs{b1 b2:Int}(h:BegS n s b1 b2):HsG n 0 s 0 [(1,b1)] [b2] [bareC b1]:=⟨h.hash,h.len,zcy⟩
def HsG.more{g' :Nat}(h:HsG n g s dep ae at_ cs)(hg:g<=g'):HsG n g' s dep ae at_ cs:=⟨h.hash,h.len,zcy⟩
def HsG.add(h:HsG n g s dep ae at_ cs)(e:aD)(hu:bI e.print)(h0:0<e.block)(h1:e.block<n):
  (zq s dep ae at_ cs e=(90,s)/\s.room<15/\e∉entries cs)\/
  ∃s' Of segs' at' ks,zq s dep ae at_ cs e=(0,s')/\HsG n g s' Of segs' at' ks/\s.room - s'.room<=15/\zq s' Of segs' at' ks e=(0,s'):=by
 have hi:=h.hash.inv;have hl:=h.len;rcases add_ok hi e hu h0 (hl▸h1) with⟨-,g2⟩|⟨g0,g1,g2⟩|⟨g0,A,c,B,Of,room',s',at',C',g1,g2,g3,g4,g5,g6⟩
 .exact .inr ⟨s,dep,ae,at_,cs,g2,h,Mx,g2⟩
 .exact .inl ⟨g2,g1,g0⟩
 .obtain⟨T,he,hT⟩:=g3.eff;subst g1;have hk:=g3.kin hi h.hash.kin;have UL:e∈entries (A++C' ++B):=by rw[entries_append,entries_append,g3.entries];exact QB _ (QD _ (g5.mem_iff.2 (Qm ..)))
  refine .inr ⟨s',Of,_,at',_,g6,⟨⟨g3.inv,hk⟩,by rw[he.len];exact hl,by rw[he.kept];exact h.gen⟩,by rw[g3.room];exact g4,?_⟩;rcases add_ok g3.inv e hu h0 (by rw[he.len,hl];exact h1) with⟨-,k2⟩|⟨k0,-⟩|⟨k0,-⟩
  .exact k2
  .exact absurd UL k0
  .exact absurd UL k0
def HsG.pre(h:HsG n g s dep ae at_ cs)(hg:g<=1000):CmPre s:=cm_pre h.hash.inv.inv h.hash.kin zcy
def HsG.commit(h:HsG n g s dep ae at_ cs)(hg:g<=1000):∃s',s.commit=(0,s')/\HsG n (g+1) s' dep ae at_ cs/\s' =kSt s' s'.next:=by obtain⟨s',e,c⟩:=commit_ok h.hash.inv.inv h.hash.kin zcy;exact⟨s',e,⟨⟨h.hash.inv.commit c,c.kin⟩,by rw[c.len];exact h.len,by have:=c.gen;have:=h.gen;push_cast;omega⟩,c.keep⟩
attribute [local go_sem] Oper.semAt_some
def entL(n pr bk:Int):aD:=⟨pr,1+bk%(n - 1)⟩
def entry_any(w:Wo)(pr bk:Int)(cm:Bool)(n:Nat)(hb:0<=bk/\bk<65536)(h0:2<=n)(h1:n<=4096):
  Calls prog 5 #[.agg #[ip pr,pK bk,.bool cm],ac n] w (iF (jz (entL n pr bk)) λw' =>ci w w') :=by
 have⟨W2,cE⟩:=eX ((w.alloc (.cells #[ip pr,pK bk,.bool cm] 32)).alloc (.cells #[ip 0,gc 0] 29));have b1:=ar w [ip pr,pK bk,.bool cm] 32;have B2:Af (ci w W2):=zbz;have X2:aq W2 w 32 [ip pr,pK bk,.bool cm]:=by rw[cE];exact b1.on (aF _ _)
 have R2:aq W2 (w.heap.size+1) 29 [ip 0,gc 0]:=by rw[cE];have:=ar (w.alloc (.cells #[ip pr,pK bk,.bool cm] 32)) [ip 0,gc 0] 29;exact zdO
 obtain⟨m,hm⟩:∃m:Int,m=(n:Int) - 1:=⟨_,rfl⟩;have h2:IntKind.i64.wrap ((n:Int) - 1)=m:=by rw[hm];exact ww
 have xB:¬m=0:=Mx;have h3:IntKind.i64.wrap bk=bk:=ww;have⟨r,hr⟩:=eX (bk%m);have h4:bk.tmod m=r:=by rw[hr];exact Qil hb.1
 have Wj:0<=r/\r<4096:=by rw[hr];have:=Qdo bk xB;have:=Qdh bk (show 0<m by omega);omega
 have h5:IntKind.i64.wrap (1+r)=1+r:=ww;have h6:IntKind.u32.wrap (1+r)=1+r:=ww;have HE:Af (entL n pr bk=⟨pr,1+r⟩):=by show _=_;unfold entL;rw[hr,hm]
 clear hm hr Wj hb h0 h1;have Tb:=aa cE.symm;clear b1 cE;go_in;go_upto_region 1 with fail;rw[Tb.o];have hS:W2.drew.cell? w=some (ip pr)/\W2.drew.cell? (an w.heap.size 1)=some (pK bk):=⟨X2.j0,X2.j1⟩;refine wp_region_U [11] (λW=>W.cell? w=some (ip pr)/\W.cell? (an w.heap.size 1)=some (pK bk)) KJ ?_;refine wpAnyU_row 1 [0,1,2,3,4,5,6,7,8,9,10] _ rfl KJ (λ_ _ _ _ _ h=>h) (.inr hS) ?_;iterate 11 ((first|apply tP rfl rfl rfl;(·intro W;go_simp;with_reducible rfl)|apply tL rfl rfl rfl;(·rintro W ⟨y1,y2⟩;go_simp;with_reducible rfl));try simp only[Act.put,Qb,Qc,Qd])
 refine tN ?_;have z0:=R2.j0;have z1:=R2.j1;obtain⟨f0,f1⟩:=fR2 R2;have HR:=aa R2;clear X2 R2 hS h2 h3 h4 h5 h6;refine wpAnyU_seq [11] _ rfl KJ KJ ?_;show wpList _ _ _ [_] _ _;go_wp2_with fail;have R3:=(HR.o.set 0 (ip pr)).set 1 (gc (1+r));refine Qar (lj rfl rfl (RA (w:=((W2.setCell (ol (w.heap.size+1)) (ip pr)).setCell (an (w.heap.size+1) 1) (gc (1+r))).drew) (x:= ip pr) (y:= gc (1+r)) (R3.j0) (R3.j1))) rfl ?_;rw[HE.o];exact⟨rfl,((B2.o.setCell (p:=ol (w.heap.size+1)) (Q0 _) _).setCell (p:=an (w.heap.size+1) 1) (Q0 _) _).drew⟩
variable{k:Nat}
def meas_dn:(intOf (ac (k:Int))).toNat<(intOf (ac ((k:Int)+1))).toNat:=by simp[intOf]
def places_yes(w:Wo)(u v:Va)(xs:Fr)(hu:Ns w w .i64 u xs)(hv:Ns w w .i64 v xs)(hl:xs.length<=100000):
  Calls prog 31 #[u,v] w (iF true λw' =>ci w w') :=by
 obtain⟨Au,cu,rfl,-,-⟩:=hu.form;obtain⟨Av,cv,rfl,-,-⟩:=hv.form;have⟨n,hn⟩:=eX xs.length;rw[<-hn] at hu hv|-;have HU:=aa hu;have HV:=aa hv;have Hn:=dK hn (by omega:n<=100000);clear hu hv hn hl;go_in;go_wp2_with fail;go_loopw [5] (λi wr=>∃k:Nat,i= ac k/\Af (k<=n/\ci w wr)) (λi _=>(intOf i).toNat)
 .exact⟨n,rfl,go,pi⟩
 .obtain⟨k,rfl,HR⟩:=hrel;cases k with
  |zero=>
   have i0:¬((0:Nat):Int)>0:=Fd;go_wp2_with fail;go_ret;exact⟨rfl,HR.q1⟩
  |succ k=>
   have hk:k<xs.length:=(by have:=HR.p1;have:=Hn.o;omega);have i1:(((k+1:Nat):Int)>0):=Mx;have hw:wrap64 (k:Int)=k:=At;obtain⟨b1,o1,q1,e1,-,-,-,h1⟩:=(HU.o.below HR.q1).cells Mx;obtain⟨b2,o2,q2,e2,-,-,-,h2⟩:=(HV.o.below HR.q1).cells Mx;obtain rfl:Au=some (an b1 o1):=zdb;obtain rfl:Av=some (an b2 o2):=zdJ;have y1:=h1 k hk;have y2:=h2 k hk;generalize xs.getD k 0=x at y1 y2;have k0:(0:Int)<=k:=Mx;have k1:(k:Int)<n:=wl;clear e1 e2 h1 h2 hk;have fF:=aa HR.q1;have Hk:=aa HR.p1;clear HR;go_upto_region 6 with fail;go_quiet (fail);go_wp2_with fail;go_roundw
   .exact⟨k,by rw[hw],Qhe Hk.o,Pd fF.o (below_drewN pi _)⟩
   .first|exact meas_dn|(rw[hw];exact meas_dn)
def meas_dn1:(intOf (ac ((k:Int) - 1))+1).toNat<(intOf (ac (((k+1:Nat):Int) - 1))+1).toNat:=by simp[intOf]
def shelves_yes(w:Wo)(s:ay)(v u:Va)(h:Es w w v s.es)(h' :Es w w u s.es)(hl:s.es.length<=100000):
  Calls prog 32 #[.agg #[io s.depth,gc s.next,v],.agg #[io s.depth,gc s.next,u]] w (iF true λw' =>ci w w') :=by
 obtain⟨A,c,rfl,-,-⟩:=h.1.form;obtain⟨A',d,rfl,-,-⟩:=h'.1.form;have⟨n,hn⟩:=eX s.es.length;have⟨sd,Eb⟩:=eX s.depth;have⟨sn,Wh⟩:=eX s.next;rw[<-hn,<-Eb,<-Wh];rw[<-hn] at h h';have⟨W1,aW⟩:=eX ((w.alloc (.cells #[io sd,gc sn,am A n c] 79)).alloc (.cells #[io sd,gc sn,am A' n d] 79));have B1:Af (ci w W1):=JQ;have X1:Af (aq W1 w 79 [io sd,gc sn,am A n c]):=by have:=(ar w [io sd,gc sn,am A n c] 79).on (aF _ (.cells #[io sd,gc sn,am A' n d] 79));rw[aW];exact this
 have Y1:Af (aq W1 (w.heap.size+1) 79 [io sd,gc sn,am A' n d]):=by have:=ar (w.alloc (.cells #[io sd,gc sn,am A n c] 79)) [io sd,gc sn,am A' n d] 79;show aq _ _ _ _;rw[aW];exact zdO
 have H:=aa h;have H' :=aa h';have Hn:=dK hn (by omega:n<=100000);have Tt:wrap64 ((n:Int) - 1)=n - 1:=vW;have HW:=aa aW.symm;clear aW h h' hl hn Eb Wh;go_in;go_upto_region 1 with fail;rw[HW.o];obtain⟨x0,x1,x2⟩:=ra X1.o;obtain⟨y0,y1,y2⟩:=ra Y1.o;go_wp2_with fail;have Hwn:=aa Tt;clear Tt x0 x1 x2 y0 y1 y2;go_loopw [5] (λi wr=>∃k:Nat,i= ac ((k:Int) - 1)/\Af (k<=n/\ci W1 wr)) (λi _=>(intOf i+1).toNat)
 .exact⟨n,by rw[Hwn.o],go,pi⟩
 .obtain⟨k,rfl,HR⟩:=hrel;cases k with
  |zero=>
   have i0:¬(((0:Nat):Int) - 1≥0):=Fd;go_wp2_with fail;go_ret;exact⟨rfl,Pd B1.o HR.q1⟩
  |succ k=>
   have hk:k<s.es.length:=(by have:=HR.p1;have:=Hn.o;omega);have i1:(0:Int)<=k:=Mx;have i2:(k:Int)<n:=wl;have hw:wrap64 ((k:Int) - 1)=(k:Int) - 1:=At;have Bw:=aa (Pd B1.o HR.q1);rw[Hn.p1] at H H';obtain⟨b1,o1,q1,e1,-,-,-,h1⟩:=(H.o.below Bw.o).cells Mx;obtain⟨b2,o2,q2,e2,-,-,-,h2⟩:=(H'.o.below Bw.o).cells Mx;obtain rfl:A=some (an b1 o1):=zdb;obtain rfl:A' =some (an b2 o2):=zdJ;obtain⟨z0,z1⟩:=h1 k hk;obtain⟨z2,z3⟩:=h2 k hk;have⟨x,hx⟩:=eX (s.es[k]);rw[<-hx] at z0 z1 z2 z3;have x2:=(HR.q1.cell (p:=an w.heap.size 2) X1.o.lt).trans (X1.o.j2);have y2:=(HR.q1.cell (p:=an (w.heap.size+1) 2) Y1.o.lt).trans (Y1.o.j2);have bT:∀W,(binOp .neq 29 (.agg #[ip x.print,gc x.block]) (.agg #[ip x.print,gc x.block])).run prog W= .ok false W:=λW=>(by rw[Qgp,YM W x x];simp);have Wv:prog.eqGuardType prog.depth 29=false:=KJ;have fF:=aa HR.o;clear HR e1 e2 h1 h2 hk hx;go_upto_region 6 with fail;go_quiet (fail);go_wp2_with fail;go_roundw
   .exact⟨k,by rw[hw],Qhe fF.p1,Pd fF.q1 (below_drewN pi _)⟩
   .first|exact meas_dn1|(rw[hw];exact meas_dn1)
def chains_yes(w:Wo)(v1 v2:Va)(cs:List ak)(h1:mI w (λ_=>False) v1 cs)(h2:mI w (λ_=>False) v2 cs)(hl:cs.length<=1000)(hb:∀c∈cs,c.blocks.length<=4096/\c.ah.length<=4096):
  Calls prog 10 #[v1,v2] w (iF true λw' =>ci w w') :=by
 obtain⟨A,c,rfl⟩:=h1.form;obtain⟨A',c',rfl⟩:=h2.form;obtain⟨n,hn⟩:∃n,n=cs.length:=⟨_,rfl⟩;have H1:Af (mI w (λ_=>False) (am A n c) cs):=by show mI _ _ _ _;rw[hn];exact h1
 have H2:Af (mI w (λ_=>False) (am A' n c') cs):=by show mI _ _ _ _;rw[hn];exact h2
 have Hn:Af (n=cs.length/\n<=1000):=⟨hn,Mx⟩;have Hb:=aa hb;rw[<-hn];clear h1 h2 hl hb hn;go_in;go_wp2_with fail;go_loopw [14] (λi wr=>∃k:Nat,i= ac k/\Af (k<=n/\ci w wr)) (λi _=>n - (intOf i).toNat)
 .exact⟨0,rfl,lm,pi⟩
 .obtain⟨k,rfl,HR⟩:=hrel;by_cases aJ:k<n
  .have i0:(0:Int)<=k:=(by omega);have i1:(k:Int)<n:=Mx;have fp:wrap64 ((k:Int)+1)=(k:Int)+1:=At;have eu:=aa fp;obtain⟨ch,kG⟩:∃ch,cs[k]? =some ch:=⟨_,Qf wl⟩;have AX:=Hb.o ch (Qi kG);obtain⟨b1,o1,p1,A1,A2,m1,c1,m2,c2,e1,l1,x0,x1,x2,x3,ca⟩:=(H1.o.on HR.q1).lG kG;obtain⟨b2,o2,p2,D1,D2,n1,d1,n2,d2,e2,l2,y0,y1,y2,y3,da⟩:=(H2.o.on HR.q1).lG kG;obtain rfl:A=some (an b1 o1):=zdb;obtain rfl:A' =some (an b2 o2):=zdJ;obtain⟨bv,sv,ps,he,g1,-,g2,g3⟩:=ca.ex;obtain⟨NC,tZ,qs,ud,k1,-,k2,k3⟩:=da.ex;obtain⟨rfl,rfl⟩:Value.slice A1 m1 c1=bv/\Value.slice A2 m2 c2=sv:=zaR;obtain⟨rfl,rfl⟩:Value.slice D1 n1 d1=NC/\Value.slice D2 n2 d2=tZ :=(by simpa using ud);obtain⟨L,hL⟩:∃L,L=ch.ah.length:=⟨_,rfl⟩;obtain rfl:m2=L:=(by obtain⟨_,_,e,-,-⟩:=g2.s.sl.form;injection e with _ e;rw[e,hL,<-g3,Qq]);obtain rfl:n2=m2:=(by obtain⟨_,_,e,-,-⟩:=k2.s.sl.form;injection e with _ e;rw[e,hL,<-k3,Qq]);have HL:Af (n2=ch.ah.length/\n2<=4096):=⟨hL,by rw[hL];exact AX.2⟩;have yW:(n2:Int)<=4096:=(by rw[hL];have:=AX.2;omega);have HPl:=aa (λW (hW:ci wr W)=>places_yes W (am A1 m1 c1) (am D1 n1 d1) ch.blocks (dU g1 hW) (dU k1 hW) (Qh AX.1 Fd));have HSh:Af (iP wr (λ_=>False) (am A2 n2 c2) ps/\iP wr (λ_=>False) (am D2 n2 d2) qs/\ps.map Prod.fst=ch.ah/\qs.map Prod.fst=ch.ah):=⟨g2,k2,g3,k3⟩;have HX:Af (jp wr b1 (o1+k*4) (ac ch.ax)/\jp wr b1 (o1+k*4+1) (ac ch.depth)/\jp wr b1 (o1+k*4+2) (am A1 m1 c1)/\jp wr b1 (o1+k*4+3) (am A2 n2 c2)/\jp wr b2 (o2+k*4) (ac ch.ax)/\jp wr b2 (o2+k*4+1) (ac ch.depth)/\jp wr b2 (o2+k*4+2) (am D1 n1 d1)/\jp wr b2 (o2+k*4+3) (am D2 n2 d2)):=⟨x0,x1,x2,x3,y0,y1,y2,y3⟩;have HXW:Af (∀W,ci wr W->jp W b1 (o1+k*4) (ac ch.ax)/\jp W b1 (o1+k*4+1) (ac ch.depth)/\jp W b1 (o1+k*4+2) (am A1 m1 c1)/\jp W b1 (o1+k*4+3) (am A2 n2 c2)/\jp W b2 (o2+k*4) (ac ch.ax)/\jp W b2 (o2+k*4+1) (ac ch.depth)/\jp W b2 (o2+k*4+2) (am D1 n1 d1)/\jp W b2 (o2+k*4+3) (am D2 n2 d2)):=λW hW=>
    have t:∀{a v},wr.cell? a=some v->W.cell? a=some v:=λh=>(hW.cell (XX h)).trans h
    ⟨t x0,t x1,t x2,t x3,t y0,t y1,t y2,t y3⟩
   have fF:=aa HR.q1;have bj:=aa aJ;obtain⟨fr,eo⟩:∃f:Int,f=ch.ax:=⟨_,rfl⟩;obtain⟨dp,eK⟩:∃f:Int,f=ch.depth:=⟨_,rfl⟩;rw[<-eo,<-eK] at HXW;clear eo eK HX HR aJ kG AX e1 l1 x0 x1 x2 x3 ca e2 l2 y0 y1 y2 y3 da he g1 g2 g3 ud k1 k2 k3 hL;go_upto_region 6 with fail;go_cut [69] from 69 to 70 (λv W=>Af (v= .bool false/\ci wr W))
   .obtain⟨Wd,dJ⟩:∃W,W=wr.drew:=⟨_,rfl⟩;have hS:ci wr Wd:=(by rw[dJ];exact pi.drew);refine wp_region_U [] (λW=>ci wr W) KJ ?_;rw[<-dJ];clear dJ;refine wpAnyU_row 18 [0,1,2,3,4,5,6,7,8,9,10,11,12,13,14,15,16,17,18,19,20,21,22,23,24,25,26,27,28,29,30,31,32,33,34] _ rfl KJ (λ_ _ _ _ _ h=>h) (.inr hS) ?_;(iterate 35 ((first|apply tP rfl KJ rfl;(·intro W;go_simp;with_reducible rfl)|apply tL rfl KJ rfl;(·intro W hW;obtain⟨x0,x1,x2,x3,y0,y1,y2,y3⟩:=HXW.o W hW;go_simp;with_reducible rfl));try simp only[Act.put,Qb,Qc,Qd]));refine tN ?_;refine uN 35 rfl ?_ ?_
    .kernel_rfl
    intro K hK;go_simp;go_at_call 31;refine PF (HPl.o Wd hS) λW5 b5=> ?_;go_simp;have h5:=Pd hS b5;refine hK.out _ _ (λ_ _=>h5) ?_;clear hK K b5 hS;(try simp only[Act.put]);refine wpAnyU_row 0 [36,37,38,39,40,41,42,43,44,45,46,47,48,49,50,51,52] _ rfl KJ (λ_ _ _ _ _ h=>h) (.inr h5) ?_;(iterate 36 refine tX Fd ?_);(iterate 17 ((first|apply tP rfl KJ rfl;(·intro W;go_simp;with_reducible rfl)|apply tL rfl KJ rfl;(·intro W hW;obtain⟨x0,x1,x2,x3,y0,y1,y2,y3⟩:=HXW.o W hW;go_simp;with_reducible rfl));try simp only[Act.put,Qb,Qc,Qd]));exact zfs
   .obtain⟨ht,hb⟩:=hcut.o;subst ht;obtain⟨x0,x1,x2,x3,y0,y1,y2,y3⟩:=HXW.o _ hb;have Hb6:=aa hb;clear hb hcut x0 x1 x2 y0 y1 y2;go_upto_region 9 with fail;clear x3 y3;go_loopw [76] (λi wx=>∃q:Nat,i= ac q/\Af (q<=n2/\ci wr wx)) (λi _=>n2 - (intOf i).toNat)
    .exact⟨0,rfl,lm,Hb6.o⟩
    .obtain⟨q,rfl,HQ⟩:=hrel;by_cases hq:q<n2
     .have q0:(0:Int)<=q:=(by omega);have q1:(q:Int)<n2:=Mx;have hwq:wrap64 ((q:Int)+1)=(q:Int)+1:=(by unfold wrap64;have:=HL.o;omega);have Hwq:=aa hwq;obtain⟨G1,G2,G3,G4⟩:=HSh.o;obtain⟨p,hp⟩:∃p,ps[q]? =some p:=⟨_,Qf (by have h:=XF List.length G3;rw[Qq] at h;have:=HL.o;omega)⟩;obtain⟨r,hr⟩:∃r,qs[q]? =some r:=⟨_,Qf (by have h:=XF List.length G4;rw[Qq] at h;have:=HL.o;omega)⟩;have gY:p.1=r.1:=(by have e1:(ps.map Prod.fst)[q]? =some p.1:=(by rw[Qt,hp];rfl);have e2:(qs.map Prod.fst)[q]? =some r.1:=(by rw[Qt,hr];rfl);rw[G3,<-G4,e2] at e1;exact(Qr e1).symm);have g1:=G1.on HQ.q1;have g2:=G2.on HQ.q1;obtain⟨d1,t1,u1,e1,-,z0,z1,z2⟩:=g1.s.cells hp;obtain⟨d2,t2,u2,e2,-,w0,w1,w2⟩:=g2.s.cells hr;obtain⟨sp,vp⟩:=p;obtain⟨sr,vr⟩:=r;obtain rfl:sp=sr:=gY;have eE:Es wr wr vp sp.es:=(g1.s.es _ (Qi hp)).1;have ec:pC sp:=(g1.s.es _ (Qi hp)).2;have hes2:Es wr wr vr sp.es:=(g2.s.es _ (Qi hr)).1;obtain⟨Ae,ce,rfl,-,-⟩:=eE.1.form;obtain⟨Ag,cf,rfl,-,-⟩:=hes2.1.form;obtain rfl:A2=some (an d1 t1):=zdb;obtain rfl:D2=some (an d2 t2):=zdJ;have HE:=aa (λW (hW:ci wr W)=>shelves_yes W sp (am Ae sp.es.length ce) (am Ag sp.es.length cf) (gA eE hW) (gA hes2 hW) (Qh ec.2.2 Fd));obtain⟨de,hde⟩:∃x:Int,x=sp.depth:=⟨_,rfl⟩;obtain⟨ne,bT⟩:∃x:Int,x=sp.next:=⟨_,rfl⟩;obtain⟨le,hle⟩:∃x:Nat,x=sp.es.length:=⟨_,rfl⟩;rw[<-hde,<-bT,<-hle] at HE;have z0:jp wr d1 (t1+q*3) (io de):=(by rw[hde];exact z0);have z1:jp wr d1 (t1+q*3+1) (gc ne):=(by rw[bT];exact z1);have z2:jp wr d1 (t1+q*3+2) (am Ae le ce):=(by rw[hle];exact z2);have w0:jp wr d2 (t2+q*3) (io de):=(by rw[hde];exact w0);have w1:jp wr d2 (t2+q*3+1) (gc ne):=(by rw[bT];exact w1);have w2:jp wr d2 (t2+q*3+2) (am Ag le cf):=(by rw[hle];exact w2);have HZ:Af (∀W,ci wr W->jp W d1 (t1+q*3) (io de)/\jp W d1 (t1+q*3+1) (gc ne)/\jp W d1 (t1+q*3+2) (am Ae le ce)/\jp W d2 (t2+q*3) (io de)/\jp W d2 (t2+q*3+1) (gc ne)/\jp W d2 (t2+q*3+2) (am Ag le cf)):=λW hW=>
       have t:∀{a v},wr.cell? a=some v->W.cell? a=some v:=λh=>(hW.cell (XX h)).trans h
       ⟨t z0,t z1,t z2,t w0,t w1,t w2⟩
      obtain⟨HXq,Hq,HQ2⟩:=qC (λW (hW:ci wr W)=>HXW.o W (Pd HQ.q1 hW)) hq HQ.q1;clear hq HQ G1 G2 G3 G4 hp hr g1 g2 e1 e2 z0 z1 z2 w0 w1 w2 eE ec hes2 hde bT hle;go_upto_region 11 with fail;go_cut [96] from 96 to 97 (λv W=>Af (v= .bool false/\ci wr W))
      .obtain⟨Wd,dJ⟩:∃W,W=wr.drew:=⟨_,rfl⟩;have hS:ci wr Wd:=(by rw[dJ];exact pi.drew);refine wp_region_U [] (λW=>ci wr W) KJ ?_;rw[<-dJ];clear dJ;refine wpAnyU_row 2 [0,1,2,3,4,5,6,7,8,9,10,11,12,13,14,15] _ rfl KJ (λ_ _ _ _ _ h=>h) (.inr hS) ?_;(iterate 16 ((first|apply tP rfl rfl rfl;(·intro W;go_simp;with_reducible rfl)|apply tL rfl rfl rfl;(·intro W hW;obtain⟨x0,x1,x2,x3,y0,y1,y2,y3⟩:=HXq.o W hW;obtain⟨z0,z1,z2,w0,w1,w2⟩:=HZ.o W hW;go_simp;with_reducible rfl));try simp only[Act.put,Qb,Qc,Qd]));refine tN ?_;refine uN 16 rfl ?_ ?_
       .kernel_rfl
       intro K hK;go_simp;go_at_call 32;refine PF (HE.o Wd hS) λW5 b5=> ?_;go_simp;have h5:=Pd hS b5;refine hK.out _ _ (λ_ _=>h5) ?_;clear hK K b5 hS;(try simp only[Act.put]);refine wpAnyU_row 0 [17] _ rfl KJ (λ_ _ _ _ _ h=>h) (.inr h5) ?_;(iterate 17 refine tX Fd ?_);apply tL rfl rfl rfl
       .intro W hW;go_simp;with_reducible rfl
       (try simp only[Act.put,Qb,Qc,Qd]);exact zfs
      .obtain⟨ht,hb⟩:=hcut.o;subst ht;have Hb7:=aa hb;clear hb hcut;go_wp2_with fail;go_roundw
       .exact⟨q+1,by first|rfl|(rw[Hwq.o];rfl),Hq.o,Pd HQ2.o Hb7.o⟩
       .first|exact al Hq.o|(rw[Hwq.o];exact al Hq.o)
     .obtain rfl:q=n2:=(by have:=HQ.p1;omega);go_wp2_with fail;go_roundw
      .exact⟨k+1,xh,bj.o,Pd fF.o HQ.q1⟩
      .exact wn
  .obtain rfl:k=n:=(by have:=HR.p1;omega);go_wp2_with fail;go_ret;exact⟨rfl,HR.q1⟩
variable{j:Nat}{sj:Nat × Int}
structure U0(w:Wo)(ae:List (Nat×Int))(cs:List ak)(db mb n k:Nat)(dc:Ox)(ov:Va)(jd:Nat)(wr:Wo):Prop where
 le:k<=n
 jl:jd<=ae.length
 jk:∀j,j<ae.length->(j<jd↔aC ae j<k)
 wo:∃ms,jA wr w ov ms/\ms.map (·.c)=cs.take jd
 map:MG Uc wr mb (kb ((cs.take jd).flatMap (·.blocks))) ((cs.take jd).flatMap (·.blocks)).length
 box:aq wr db 66 dc
 low:Below w w wr
structure abK(w:Wo)(cs:List ak)(db mb cb:Nat)(dc c4:Ox)(ov:Va)(jd:Nat)(m:zgk)(q:Nat)(wr:Wo):Prop where
 le:q<=m.c.blocks.length
 wo:∃ms,jA wr w ov ms/\ms.map (·.c)=cs.take jd
 map:MG Uc wr mb (kb ((cs.take jd).flatMap (·.blocks)++m.c.blocks.take q)) (((cs.take jd).flatMap (·.blocks)).length+q)
 box:aq wr db 66 dc
 chb:aq wr cb 72 c4
 own:rl wr w m
 low:Below w w wr
def vu{j' :Nat}(hj:ae[j]? =some sj)(aJ:j<j'):aC ae j+sj.1<=aC ae j' :=by rw[<-bH ae j sj hj];exact me ae aJ
def acy(h:eQ dep ae){i k jd:Nat}(hj:ae[j]? =some sj)(hi:i<sj.1)(hk:k=aC ae j+i)(hc:∀j',j' <ae.length->(j' <jd↔aC ae j' <k))(hl:jd<=ae.length):
  (i=0->jd=j/\(∀j',j' <ae.length->(j' <jd+1↔aC ae j' <k+1)))/\(0<i->∀j',j' <ae.length->(j' <jd↔aC ae j' <k+1)):=by
 have wI:=(Ql.1 hj).1;have key:∀j',j' <ae.length->(j' <j->aC ae j' <aC ae j)/\(j<j'->aC ae j+sj.1<=aC ae j'):=λj' Eg =>by refine⟨λaJ=> ?_,λaJ=>vu hj aJ⟩;obtain⟨s',hs'⟩:∃s',ae[j']? =some s' :=⟨_,Qf Eg⟩;have:=vu hs' aJ;have:=h.pos hs';omega
 constructor
 .intro h0;subst h0;have Nh:jd=j:=by
   obtain h1|h1|h1:=Qbt jd j
   .have h2:=(hc jd Mx);have h3:=(key jd Mx).1 h1;omega
   .exact h1
   .have h2:=hc j wI;omega
  refine⟨Nh,λj' Eg => ?_⟩;have h3:=key j' Eg;obtain h1|h1|h1:=Qbt j' j
  .have:=h3.1 h1;omega
  .subst h1;omega
  .have:=h3.2 h1;omega
 .intro h0 j' Eg;have h3:=key j' Eg;have h4:=hc j' Eg;obtain h1|h1|h1:=Qbt j' j
  .have:=h3.1 h1;omega
  .subst h1;omega
  .have:=h3.2 h1;omega
def Vf(h:eQ dep ae):ae.length<=256:=by
 have key:∀k,k<=ae.length->k<=aC ae k:=by
  intro k;induction k with
  |zero=>intro _;exact lm
  |succ k ih=>
   intro hk;obtain⟨sg,Ay⟩:∃sg,ae[k]? =some sg:=⟨_,Qf hk⟩;rw[bH ae k sg Ay];have:=ih (QX hk);have:=h.pos Ay;omega
 exact Qh (key _ go) (Qh (fH ae _) h.len)
def Ss(w:Wo)(I:bF)(s:aX)(h:cR w I s)(dep:Nat)(ae:List (Nat×Int))(at_:Fr)(cs:List ak)(hk:MU s dep ae at_ cs):
  Calls prog 7 #[I.b] w λe w' =>∃v ms,e= .returned (.tuple #[v,ac 0])/\jA w' w v ms/\ms.map (·.c)=cs/\ci w w' :=by
 have Td:=aa (oz w I s h dep ae at_ hk.dir);have HK:=aa hk;have H:=aa h;have⟨n,hn⟩:=eX ((expand ae).length);have Hn:=dK hn (by rw[hn];exact hk.dir.oH.len:n<=256);clear h hk hn;go_in;go_upto_region 2 with(go_at_call 21;refine Td.o.mono ?_;rintro e W2 ⟨dv,av,rfl,d2,a2,b2⟩;obtain⟨Ad,cd,rfl,-,-⟩:=d2.ns.form;obtain⟨Aa,na,ca,rfl⟩:=a2.bu;have D2:=aa d2;have B2:=aa b2;clear d2 a2 b2);rw[<-Hn.p1] at D2|-;obtain⟨W3,cD,X3,b3⟩:=nW W2 [io dep,am Ad n cd] 66;have⟨db,iU⟩:=eX W2.heap.size;rw[<-cD];rw[<-iU] at X3|-;have Em:=aa X3;have B23:=aa b3;have xA:= @run_makeMap prog;clear cD b3 X3 Td;go_upto_region 6 with fail;have M4:MG Uc (W3.alloc (.map #[] 0)) W3 (λ_=>none) 0:=MG.made W3;have b4:ci W3 (W3.alloc (.map #[] 0)):=pi.alloc go _;have⟨W4,j7⟩:=eX (W3.alloc (.map #[] 0));have⟨mb,tB⟩:=eX W3.heap.size;rw[<-j7] at M4 b4|-;rw[<-tB] at M4|-;have X4:=Em.o.on b4;have x1:=X4.j1;have L4:=Pd B23.o b4;have Hdb:Af (W2.heap.size<=db/\W2.heap.size<=mb/\db≠mb):=⟨by rw[iU];exact go,by rw[tB];exact B23.o.size,by rw[tB];exact XP Em.o.lt⟩;have rj:Af (U0 W2 ae cs db mb n 0 [io dep,am Ad n cd] () 0 W4):=⟨lm,lm,λj _=>Mx,⟨[],Rl _ _,rfl⟩,by rw[Zq,List.flatMap_nil,Lf];exact M4,X4,L4⟩;have n256:(n:Int)<=256:=by have:=Hn.q1;omega
 have D2n:=aa D2.o.ns;clear j7 tB iU M4 b4 X4 L4 xA;go_wp2_with fail;clear x1;go_loopw [27,7] (λiv xv wr=>∃(k jd:Nat) (Ao:GB) (no co:Nat),iv= ac k/\xv= am Ao no co/\Af (U0 W2 ae cs db mb n k [io dep,am Ad n cd] (am Ao no co) jd wr)) (λiv _ _=>n - (intOf iv).toNat)
 .exact⟨0,0,none,0,0,rfl,rfl,rj.o⟩
 .obtain⟨k,jd,Ao,no,co,rfl,rfl,HS⟩:=hrel;by_cases cH:k<n
  .obtain⟨j,sj,i,hj,hi,AA⟩:=lo ae k (by rw[<-Hn.p1];exact cH);obtain⟨q1,q2⟩:=acy HK.o.dir.oH hj hi AA HS.o.jk HS.o.jl;obtain⟨b,o,c',mQ,-,-,hb,aH⟩:=D2.o.ns.cells (by rw[<-Hn.p1];omega);rw[<-Hn.p1] at mQ aH;obtain rfl:Ad=some (an b o):=(by injection mQ);have Ww:wr.cell? (an b (o+k))=some (pK sj.2):=(by have h3:=eh ae j sj hj i hi;rw[<-AA] at h3;rw[HS.o.low.cell (p:=an b (o+k)) hb,aH k cH,Qe,h3];rfl);have OJ:∀g,k=g+1->∃y,wr.cell? (an b (o+g))=some (pK y)/\(sj.2==y)=decide (0<i):=λg hg=>by
    rw[HS.o.low.cell (p:=an b (o+g)) hb,aH g Mx,Qe];obtain h0|h0:=XG i
    .rcases HK.o.dir.oH.ahead hj with h1|⟨y,h1,h2⟩
     .omega
     .rw[show aC ae j - 1=g by omega] at h1;rw[h1];exact⟨y,rfl,by rw[Xe Mx];exact Xc (Xm h2)⟩
    .have h3:=eh ae j sj hj (i - 1) Mx;rw[show aC ae j+(i - 1)=g by omega] at h3;rw[h3];exact⟨sj.2,rfl,by rw[Xa h0];exact beq_self_eq_true _⟩
   obtain⟨d0,d1⟩:=gh HS.o.box;have Hj:=kH hj hi AA cH;have Hq:=dK q1 q2;have um:=aa HS.o;have Hb:=aa hb;have k0:=Xh k;have kn:=Xi.2 cH;obtain⟨same,BG⟩:∃same:Bool,same=decide (0<i):=⟨_,rfl⟩;have OU:=aa BG;rw[<-BG] at OJ;have ahR:=aa OJ;clear q1 q2 hj hi mQ aH hb HS BG OJ cH AA;go_upto_region 9 with fail;go_cut [45] from 30 to 45 (λv45 W=>v45= .bool same/\Af (ci wr W))
   .cases k with
    |zero=>
     have lz:same=false:=(by rw[OU.o];have:=Hj.p3;exact Xe Mx);rw[show((0:Nat):Int)=(0:Int) from rfl];go_quiet (fail);go_wp2_with fail;go_meet;exact⟨by rw[lz],below_drewN pi _⟩
    |succ g=>
     obtain⟨y,y1,y2⟩:=ahR.o g rfl;have g1:(0:Int)<((g+1:Nat):Int):=Mx;have g2:IntKind.i64.wrap (((g+1:Nat):Int) - 1)=(g:Int):=UV;have g3:=Xh g;have g4:(g:Int)<n:=Mx;go_quiet (fail);go_wp2_with fail;go_meet;exact⟨by first|rfl|rw[y2],below_drewN pi _⟩
   .obtain⟨rfl,B9⟩:=hcut;obtain⟨dd0,dd1⟩:=gh (um.o.box.on B9.o);have hwk:IntKind.i64.wrap ((k:Int)+1)=(k:Int)+1:=(by simp only[XN];omega);have Hwk:Af (wrap64 ((k:Int)+1)=(k:Int)+1):=zcJ;clear d0 d1;cases same
    .have ml:i=0:=(by have h1:=OU.o;have h2:=Qbo h1.symm;omega);obtain⟨Nh,N8⟩:=Hq.p1 ml;obtain⟨c,hc⟩:=HK.o.at_seg Hj.p1;have hCh:=nR wc I s (H.o.on (Pd B2.o (Pd um.o.low B9.o))) dep ae at_ cs HK.o (el b o n cd) (by have h1:=D2.o.ns;have h2:=Pd um.o.low B9.o;exact Sl.more (Sl.below h1 h2) h2.size) j i sj c Hj.p1 hc Hj.p2;rw[<-Hj.p3] at hCh;have Ep:=aa hCh;have HCt:=aa N8;have Hc:=dK (by rw[Nh];exact hc:cs[jd]? =some c) Nh;clear ml Nh N8 hc hCh;go_upto_region 11 with(go_at_call 22;refine Ep.o.mono ?_;rintro e uh ⟨bv,sv,ps,rfl,bo,so,pse,wC⟩;obtain⟨Ab,fQ,rfl,-,-⟩:=bo.ns.form;obtain⟨As,ns,gq,rfl⟩:=so.form;have BO:=aa bo;have SO:=aa so;have PS:=aa pse;have oU:=aa wC;clear bo so pse wC);have⟨f,hf⟩:=eX c.ax;have⟨d,hd⟩:=eX c.depth;have⟨nb,gZ⟩:=eX c.blocks.length;have wL:=iJ hf hd gZ;rw[<-hf,<-hd,<-gZ];rw[<-gZ] at BO;clear hf hd gZ;obtain⟨MP,agX,C11,Ek⟩:=nW uh [ac f,ac d,am Ab nb fQ,am As ns gq] 72;have⟨cb,iI⟩:=eX uh.heap.size;rw[<-agX];rw[<-iI] at C11|-;have bW:=Pd B9.o (Pd oU.o Ek);have hO:rl MP W2 ⟨c,am Ab nb fQ,am As ns gq,ps⟩:=⟨(aB.on BO.o Ek).low (Qh um.o.low.size B9.o.size),(SO.o.on Ek).low (Qh um.o.low.size B9.o.size),PS.o⟩;have HOo:=aa hO;obtain⟨ms,JI,AR⟩:=um.o.wo;have WR:Af (abK W2 cs db mb cb [io dep,el b o n cd] [ac f,ac d,am Ab nb fQ,am As ns gq] (am Ao no co) jd ⟨c,am Ab nb fQ,am As ns gq,ps⟩ 0 MP):=
      ⟨lm,⟨ms,JI.on bW,AR⟩,by rw[Zq,Zi];exact um.o.map.on bW,um.o.box.on bW,C11,hO,Pd um.o.low bW⟩
     have Hcb:Af (W2.heap.size<=cb/\cb≠mb):=⟨by rw[iI];exact Qh um.o.low.size (Qh B9.o.size oU.o.size),by rw[iI];exact XO (Qn um.o.map.lt (Qh B9.o.size oU.o.size))⟩;have c2:=C11.j2;clear agX iI Ek C11 bW hO JI AR dd0 dd1;go_wp2_with fail;have Hmn:Af (∀q,q<=nb->((cs.take jd).flatMap (·.blocks)).length+q<=100000):=λq hq=>by
      have h1:=HK.o.many;have h2:(cs.take jd).flatMap (·.blocks)++c.blocks=(cs.take (jd+1)).flatMap (·.blocks):=(by rw[aA cs jd c Hc.p1,QP,Qan]);have h3:=XF List.length h2;have h4:((cs.take (jd+1)).flatMap (·.blocks)).length<=(cs.flatMap (·.blocks)).length:=by
       conv=>rhs;rw[<-XW (jd+1) cs,QP,Qo]
       exact XM _ _
      rw[Qo,<-wL.q2] at h3;omega
     have nb0:(nb:Int)<=5000:=(by have h1:=wL.q2;have h2:=HK.o.many;have h3:=fL cs c (Qi Hc.p1);omega);clear c2;go_loopw [59] (λiv wr=>∃q:Nat,iv= ac q/\Af (abK W2 cs db mb cb [io dep,el b o n cd] [ac f,ac d,am Ab nb fQ,am As ns gq] (am Ao no co) jd ⟨c,am Ab nb fQ,am As ns gq,ps⟩ q wr)) (λiv _=>nb - (intOf iv).toNat)
     .exact⟨0,rfl,WR.o⟩
     .obtain⟨q,rfl,HI⟩:=hrel;by_cases Nc:q<nb
      .obtain⟨bb,ob,cc',hbv,-,-,bO,AX⟩:=HI.o.own.b.ns.cells (by show 0<c.blocks.length;rw[<-wL.q2];omega);have agR :=hbv;obtain rfl:Ab=some (an bb ob):=(by injection agR);have ZM:q<c.blocks.length:=(by rw[<-wL.q2];exact Nc);obtain⟨bk,ej⟩:∃bk:Int,c.blocks[q]? =some bk:=⟨_,Qf ZM⟩;have aH:=AX q ZM;rw[Qe,show(zgk.mk c (el bb ob nb fQ) (am As ns gq) ps).c.blocks[q]? =some bk from ej] at aH;have aH:=aH;have N3:bk∉(cs.take jd).flatMap (·.blocks)++c.blocks.take q:=(by have h2:(cs.take jd).flatMap (·.blocks)++c.blocks=(cs.take (jd+1)).flatMap (·.blocks):=(by rw[aA cs jd c Hc.p1,QP,Qan]);have h3:((cs.take (jd+1)).flatMap (·.blocks)).Nodup:=(by have h4:=HK.o.nd;rw[<-XW (jd+1) cs,QP] at h4;exact(List.nodup_append.1 h4).1);rw[<-h2,<-XW q c.blocks,<-QY] at h3;intro hm;exact(List.nodup_append.1 h3).2.2 bk hm bk (by rw[zgi ej];exact Qm ..) rfl);obtain⟨bn,-,h5,-,h7,-⟩:=(HK.o.ch j sj c Hj.p1 (by rw[<-Hc.q1];exact Hc.p1)).1.pg q ZM;have WB:=Qr (ej.symm.trans h5);have hn5:=(H.o.n0).2;have mY:Af ((Lit.int .i64 bk).wf=true):=mo Mx;have hl0:(Instr.lookup 69 (.map (some mb)) (ac bk) false).run prog wr= .ok (ac 0) wr:=(by have h8:=HI.o.map.at (x:=bk) mY.o;rw[show kb _ bk=none by unfold kb;rw[Xd N3]] at h8;exact h8);have HM:=aa HI.o.map;have qg:=aa HI.o;have IA:=iJ ej Nc (by unfold kb;rw[Xd N3]:kb ((cs.take jd).flatMap (·.blocks)++c.blocks.take q) bk=none);have q0:=Xh q;have qn:=Xi.2 Nc;have Hwq:Af (wrap64 ((q:Int)+1)=(q:Int)+1):=zcJ;have Hq1:=aa (Hmn.o q (QX Nc));clear hbv agR bO AX ZM ej N3 h5 h7 WB hn5 HI Nc;go_upto_region 17 with((refine wl_put Uc (f:=kb ((cs.take jd).flatMap (·.blocks)++c.blocks.take q)) (s:=((cs.take jd).flatMap (·.blocks)).length+q) rfl HM.o Hq1.o bk 1 mY.o rfl rfl rfl ?_);intro Bg agq agI;have ahk:=aa agq;have Oo:=aa agI;clear agq agI);have agp:MG Uc Bg mb (kb ((cs.take jd).flatMap (·.blocks)++c.blocks.take (q+1))) (((cs.take jd).flatMap (·.blocks)).length+(q+1)):=(by have h1:=ahk.o;rw[IA.q2,Le,QY,<-aA c.blocks q bk IA.p1] at h1;exact h1);have ME:(Instr.lookup 69 (.map (some mb)) (ac bk) false).run prog Bg= .ok (ac 1) Bg:=(by have h8:=ahk.o.at (x:=bk) mY.o;rw[show eM (kb ((cs.take jd).flatMap (·.blocks)++c.blocks.take q)) bk 1 bk=some 1 by unfold eM;rw[Xo rfl]] at h8;exact h8);have hIN:abK W2 cs db mb cb [io dep,el b o n cd] [ac f,ac d,el bb ob nb fQ,am As ns gq] (am Ao no co) jd ⟨c,el bb ob nb fQ,am As ns gq,ps⟩ (q+1) Bg:=(by obtain⟨ms,JI,AR⟩:=qg.o.wo;exact⟨by show q+1<=c.blocks.length;rw[<-wL.q2];exact IA.p2,⟨ms,JI.map HM.o Oo.o,AR⟩,agp,qg.o.box.grown Oo.o (λe=>Hdb.q2 (Qr e)),qg.o.chb.grown Oo.o (λe=>Hcb.q1 (Qr e)),qg.o.own.map HM.o Oo.o,qg.o.low.grown Oo.o qg.o.low.size (λj e=>by cases(Qr e);exact Hdb.p2)⟩);have HIN:=aa hIN;have Hqn:=aa IA.p2;clear agp hIN hl0 aH;go_wp2_with fail;exact⟨⟨q+1,by first|rfl|(rw[Hwq.o];rfl),HIN.o⟩,by first|exact al Hqn.o|(rw[Hwq.o];exact al Hqn.o)⟩
      .have Wk:=QE (by rw[wL.q2];exact HI.o.le) (QC Nc);obtain⟨ms,JI,AR⟩:=HI.o.wo;have qg:=aa HI.o;have Wq:ms.length=jd:=(by have h1:=XF List.length AR;rw[Qq,Qu,Zh (QX (Ql.1 Hc.p1).1)] at h1;exact h1);have Nh:jd<=10000:=(by have h1:=(Ql.1 Hc.p1).1;have h2:=HK.o.len;have h3:=Vf HK.o.dir.oH;omega);obtain⟨e0,e1,e2,e3⟩:=mm HI.o.chb;have mO:=aF wr (.cells #[ac f,ac d,am Ab nb fQ,am As ns gq] 72);have C13:=ar wr [ac f,ac d,am Ab nb fQ,am As ns gq] 72;have kG:wX ⟨c,am Ab nb fQ,am As ns gq,ps⟩=[ac f,ac d,am Ab nb fQ,am As ns gq]:=(by rw[wL.p1,wL.p2];rfl);have pt:=PX (qr wr #[ac f,ac d,am Ab nb fQ,am As ns gq] 72) W2 (am Ao no co) ms (JI.on mO) wr ⟨c,am Ab nb fQ,am As ns gq,ps⟩ (by rw[kG];exact C13) (HI.o.own.on mO) (by rw[Wq];exact Nh) (Qh HI.o.low.size mO.size) 35;have Up:=aa pt;have an3:Af (∀v' w',(jA w' W2 v' (ms++[⟨c,am Ab nb fQ,am As ns gq,ps⟩])/\(qr wr #[ac f,ac d,am Ab nb fQ,am As ns gq] 72).grownBy w' (Value.slice Ao no co).ownBlock/\(v'.ownBlock=(Value.slice Ao no co).ownBlock\/v'.ownBlock=some (qr wr #[ac f,ac d,am Ab nb fQ,am As ns gq] 72).heap.size))->U0 W2 ae cs db mb n (k+1) [io dep,el b o n cd] v' (jd+1) w'):=λv' w' ⟨r1,r2,r3⟩=>by
        have ZO:=JI.on mO;refine⟨Hj.q3,?_,HCt.o,⟨_,r1,by rw[QL,AR,aA cs jd c Hc.p1];rfl⟩,?_,?_,?_⟩
        .have h1:=(Ql.1 Hc.p1).1;rw[HK.o.len] at h1;exact h1
        .have h1:=qg.o.map;have h2:(cs.take jd).flatMap (·.blocks)++c.blocks=(cs.take (jd+1)).flatMap (·.blocks):=(by rw[aA cs jd c Hc.p1,QP,Qan]);have h3:(cs.take jd).flatMap (·.blocks)++c.blocks.take q=(cs.take (jd+1)).flatMap (·.blocks):=(by have h5:c.blocks.take q=c.blocks:=Qj (by rw[Wk,wL.q2];exact go);rw[h5,h2]);have h4:((cs.take jd).flatMap (·.blocks)).length+q=((cs.take (jd+1)).flatMap (·.blocks)).length:=(by rw[<-h2,Qo,Wk,wL.q2]);rw[show(zgk.mk c (am Ab nb fQ) (am As ns gq) ps).c.blocks=c.blocks from rfl,h3,h4] at h1;exact(h1.on mO).kept r2 (λe=>kj (h1.on mO) ZO.row e.symm)
        .exact(qg.o.box.on mO).grown r2 (λe=>aq.not_row (qg.o.box.on mO) Fd ZO.row e.symm)
        .exact(Pd qg.o.low mO).grown r2 (Qh qg.o.low.size mO.size) (λj e=>(Xr ZO.row j e).1)
       have NJ:=aa Hj.q3;clear HI Wk Wq Nh mO C13 kG pt JI AR;subst_eqs;go_wp2_with(at_builtin;(with_reducible refine wl_append_run (os:= .tmp 72) (ox:= .tmp 74) (v:= am Ao no co) (vx:= el wr 0 1 1) Up.o ?_ ?_ ?_);(·rfl);(·rfl);intro v14 W14 h14;obtain⟨A14,n14,c14,rfl⟩:=h14.1.form;have an4:=aa (an3.o _ _ h14);clear h14);exact⟨⟨k+1,jd+1,A14,n14,c14,by first|rfl|(rw[Hwk.o];rfl),rfl,an4.o⟩,zbR⟩
    .have ml:=XQ OU.o.symm;have N8:=Hq.q1 ml;have hST:U0 W2 ae cs db mb n (k+1) [io dep,el b o n cd] (am Ao no co) jd wc:=(by obtain⟨ms,JI,AR⟩:=um.o.wo;exact⟨Hj.q3,um.o.jl,N8,⟨ms,JI.on B9.o,AR⟩,um.o.map.on B9.o,um.o.box.on B9.o,Pd um.o.low B9.o⟩);have HST:=aa hST;have NJ:=aa Hj.q3;clear ml N8 hST;go_wp2_with fail;exact⟨⟨k+1,jd,Ao,no,co,by first|rfl|(rw[Hwk.o];rfl),rfl,HST.o⟩,zbR⟩
  .have hke:=QE HS.o.le (QC cH);obtain⟨ms,JI,AR⟩:=HS.o.wo;have Nh:jd=ae.length:=by
    obtain h1|h1:=Qae jd ae.length
    .exfalso;have h2:=HS.o.jk jd h1;obtain⟨sg,Ay⟩:∃sg,ae[jd]? =some sg:=⟨_,Qf h1⟩;have h3:=fH ae (jd+1);have h4:=HK.o.dir.oH.pos Ay;rw[bH ae jd sg Ay,<-Hn.p1] at h3;have h5:aC ae jd<k:=(by rw[hke];exact Qn (Qiz h4) h3);exact XI _ (h2.2 h5)
    .exact QE HS.o.jl h1
   have hms:ms.map (·.c)=cs:=(by rw[AR,Nh,<-HK.o.len,XU]);have HO:=aa (show jA wr W2 (am Ao no co) ms from JI);have HMs:=aa hms;have HL:=aa HS.o.low;subst hke;clear HS cH JI AR Nh hms;go_wp2_with fail;(try rw[Qv]);go_ret2;exact⟨_,ms,rfl,⟨fB HO.o.row B2.o.size,λm hm=>(HO.o.all m hm).low B2.o.size⟩,HMs.o,Pd B2.o HL.o⟩
variable{W W' w:Wo}{v:Va}{I:bF}
def jA.ls{S:FV}{base:Nat}{ms:List zgk}(h:jA w base v ms)(hS:∀x,S x->x<base):mI w S v (ms.map (·.c)):=by
 refine⟨ms.map λm=>(m.c,m.bv,m.sv),?_,jG h.row hS,λp hp=> ?_,by rw[Qbg];rfl⟩
 .have h1:=Sl.bU h.row;rw[Qq,Qfv];exact h1
 .obtain⟨m,hm,rfl⟩:=QU.1 hp;exact(h.all m hm).cha hS
structure RmS(w:Wo)(n:Nat)(I:bF)(k:Nat)(s:aX)(dep:Nat)(ae:List (Nat×Int))(at_:Fr)(cs:List ak)(W:Wo):Prop where
 base:cR W I s
 hs:HsG n k s dep ae at_ cs
 new:∀x,BS I x->w<=x
 low:Below w w W
def RmS.on(h:RmS w n I k s dep ae at_ cs W)(hb:ci W W'):RmS w n I k s dep ae at_ cs W' :=⟨h.base.on hb,h.hs,h.new,Pd h.low hb⟩
def RmS.step{k' :Nat}{s' :aX}{Of :Nat}{segs' :List (Nat×Int)}{at' :Fr}{ks :List ak}(h:RmS w n I k s dep ae at_ cs W)(h2:cR W' I s')(hc:aG (BS I) W W')(hs:HsG n k' s' Of segs' at' ks):RmS w n I k' s' Of segs' at' ks W' :=⟨h2,hs,h.new,h.low.trans (hc.below h.low.size λx hx e=>absurd (h.new x e) (Nat.not_le.2 hx))⟩
def RmS.room(h:RmS w n I k s dep ae at_ cs W):0<=s.room/\s.room<=5000:=by have e:s.room=max (s.t.room 2 - kU s.t.len) 0:=rfl;have r1:=h.base.FP;have hn:=h.base.n0;have r2:=Dx hn.1 hn.2;omega
def MU.small(h:MU s dep ae at_ cs):cs.length<=1000/\∀c∈cs,c.blocks.length<=4096/\c.ah.length<=4096:=by refine⟨by have:=Vf h.dir.oH;have:=h.len;omega,λc hc=> ?_⟩;have h1:=fL cs c hc;have h2:=h.many;obtain⟨j,hj,e⟩:=Qbu hc;have h3:=(h.ch j _ c (Qf (h.len▸hj)) (by rw[Qf hj,e])).1.len;omega
structure LawE where
 pr:Int
 bk:Int
 cm:Bool
def lawC(e:LawE):List Va:=[.int .u64 e.pr,.int .u16 e.bk,.bool e.cm]
def LawL(w:Wo)(v:Va)(l:List LawE):Prop:=Sl w w 3 v l.length (l.flatMap lawC)/\∀e∈l,bI e.pr/\0<=e.bk/\e.bk<65536
def lawC_get:∀(l:List LawE) (k:Nat) (e:LawE),l[k]? =some e->∀j,j<3->(l.flatMap lawC)[k*3+j]? =(lawC e)[j]? :=by
 intro l;induction l with
 |nil=>intro k p h;simp at h
 |cons a r ih=>
  intro k p h j hj;cases k with
  |zero=>
   exact zeP
  |succ k=>
   have h1:=ih k p EQ j hj;rw[QH,QM (by show 3<=_;omega),<-h1];congr 1;show(k+1)*3+j - 3=k*3+j;omega
def LawL.cells{l:List LawE}(h:LawL w v l)(hb:ci w W){e:LawE}(hk:l[k]? =some e):
  ∃b o c,v= el b o l.length c/\jp W b (o+k*3) (ip e.pr)/\jp W b (o+k*3+1) (pK e.bk)/\jp W b (o+k*3+2) (.bool e.cm):=by
 obtain⟨bQ,-⟩:=Ql.1 hk;obtain⟨b,o,c,rfl,-,-,hr⟩:=(h.1.below hb).row (QO lm bQ);refine⟨b,o,c,rfl,?_,?_,?_⟩
 .exact hr.2 _ _ (by have:=lawC_get l k e hk 0 Fd;exact this)
 .rw[XB];exact hr.2 _ _ (by rw[lawC_get l k e hk 1 Fd];rfl)
 .rw[XB];exact hr.2 _ _ (by rw[lawC_get l k e hk 2 Fd];rfl)
end
section
open Go.ChangeShapes Go.WideShapes Go.ChangeAt Go.RowKit
variable {n : Int}
def Ls{α:Type}(w:Wo)(B size:Nat)(Φ:List Va->α->Prop)(v:Va)(xs:List α):Prop:=
 ∃css:List (List Va),css.length=xs.length/\Sl w B size v xs.length css.flatten/\∀(i:Nat) (cs:Ox) (x:α),css[i]? =some cs->xs[i]? =some x->cs.length=size/\Φ cs x
def flatten_get{size:Nat}:∀(css:List (List Va)),(∀cs∈css,cs.length=size)->∀(i j:Nat) (cs:Ox),css[i]? =some cs->j<size->css.flatten[i*size+j]? =cs[j]?
 |[],_,i,j,cs,h,_=>zaF
 |c::css,hl,0,j,cs,h,hj=>by
  simp at h;subst h;have:=hl c Sv;simp only[Qbf,Xz,QR];rw[QN Mx]
 |c::css,hl,i+1,j,cs,h,hj=>by
  have h0:=hl c Sv;have:=flatten_get css (λx hx=>hl x zdx) i j cs EQ hj;simp only[Qbf];have hm:(i+1)*size+j=c.length+(i*size+j):=by rw[Nat.succ_mul,h0];omega
  rw[hm,QM Mx];exact zdO
def flatten_len{size:Nat}:∀(css:List (List Va)),(∀cs∈css,cs.length=size)->css.flatten.length=css.length*size
 |[],_=>Sv
 |c::css,hl=>by have:=flatten_len css (λx hx=>hl x zdx);have h0:=hl c Sv;simp only[Qbf,Qo,QF,this,h0,Nat.succ_mul];omega
section
variable {α : Type}{w w' : Wo}{B size : Nat}{Φ : List Va -> α -> Prop}{v : Va}{xs : List α}
end
section
variable {H : Type}{enc : TypeId × Va -> H}{P : Program}{w : Wo}{base : Nat}{spare : Nat -> Bool}{held : Bool}
def open_list{α:Type}{t e:Fy}{size fuel:Nat}{c:Va}{x:DataW H×List MemPlace}(Φ:List Va->α->Prop)(ht:P.underlying t=some (.slice e))(hc:P.cellsOf e=size)(h0:0<size)
  (hΦ:∀(n:Nat) (cs:Ox) (y:DataW H×List MemPlace),cs.length=size->DataW.trod enc P w base spare held n e cs=some y->∃a:α,Φ cs a)
  (h:DataW.trod enc P w base spare held fuel t [c]=some x):∃xs:List α,Ls w w size Φ c xs:=by
 rcases Deep.open_slice ht h with⟨iH,_⟩|⟨a,len,cap,m,n,D,Pl,iH,hb,hl,hm,xA,_,hx⟩
 .simp at iH;subst iH;exact⟨[],[],rfl,O0 _ _ _,Sv⟩
 .simp at iH;subst iH;rw[hc] at hx;have hlm:len<=m:=by rw[xA];split<;>omega
  have N1:∀k,k<=len->∃(css:List (List Va)) (xs:List α),css.length=k/\xs.length=k/\(∀(i:Nat) (cs:Ox),css[i]? =some cs->∀j u,j<size->cs[j]? =some u->w.cell? (a.add (i*size+j))=some u)/\
    ∀(i:Nat) (cs:Ox) (x:α),css[i]? =some cs->xs[i]? =some x->cs.length=size/\Φ cs x:=by
   intro k;induction k with
   |zero=>intro _;exact⟨[],[],rfl,rfl,Sv,Sv⟩
   |succ k ih=>
    intro hk;obtain⟨css,xs,h1,h2,h3,h4⟩:=ih Mx;obtain⟨ks,h5,h6⟩:=hx k Mx;obtain⟨_,h7,h8⟩:=World.cells?_some h5;obtain⟨y,hy⟩:=hΦ _ _ _ h7 h6;refine⟨css++[ks],xs++[y],by simp[h1],by simp[h2],λi cs hi j u hj hu=> ?_,λi cs x hi hx=> ?_⟩
    .rcases Qae i k with h9|h9
     .rw[QN Mx] at hi;exact h3 i cs hi j u hj hu
     .rw[QM Mx,h1] at hi;have:i=k:=by
       obtain MM|MM:=Qae k i
       .rw[QQ BY] at hi;cases hi
       .omega
      subst this;simp at hi;subst hi;rw[<-add_of_add,h8 j hj];exact hu
    .rcases Qae i k with h9|h9
     .rw[QN Mx] at hi hx;exact h4 i cs x hi hx
     .have:i=k:=by
       obtain MM|MM:=Qae k i
       .rw[QQ BY] at hi;cases hi
       .omega
      subst this;rw[QM Mx,h1] at hi;rw[QM Mx,h2] at hx;simp at hi hx;subst hi;subst hx;exact⟨h7,hy⟩
  obtain⟨css,xs,h1,h2,h3,h4⟩:=N1 len (Qg _);have bm:∀cs∈css,cs.length=size:=by intro cs iH;obtain⟨i,hi,rfl⟩:=Qbu iH;exact(h4 i _ xs[i] (Qf hi) (Qf Mx)).1
  refine⟨xs,css,Mx,⟨by rw[flatten_len css bm];rw[h1,h2],some a,cap,by rw[h2],Mx,hm,(λh=>zaY),λhn=> ?_⟩,h4⟩;have aH:∀j u,css.flatten[j]? =some u->w.cell? (a.add j)=some u:=by
   intro j u hu;have hj:j<css.length*size:=by
    obtain h9|h9:=Qae j (css.length*size)
    .exact h9
    .rw[QQ (by rw[flatten_len css bm];exact h9)] at hu;cases hu
   have hd:j/size<css.length:=Nat.div_lt_of_lt_mul (by rw[Qdi];exact hj);have hj2:j=j/size*size+j%size:=(by rw[Qdi];exact(Nat.div_add_mod j size).symm);have ago:j%size<size:=Nat.mod_lt _ h0;have e1:=flatten_get css bm (j/size) (j%size) css[j/size] (Qf hd) ago;rw[<-hj2,hu] at e1;have:=h3 (j/size) css[j/size] (Qf hd) (j%size) u ago e1.symm;rwa[<-hj2] at this
  have pV:∃u,css.flatten[0]? =some u:=by have:0<css.flatten.length:=(by rw[flatten_len css bm];exact Nat.mul_pos Mx h0);exact⟨_,Qf this⟩
  obtain⟨u0,hu0⟩:=pV;have AB:=aH 0 u0 hu0;have hsp:=World.cell?_spot AB;obtain⟨b,o,sp⟩:=a;have hsp' :sp=none:=by simpa[Addr.add] using hsp
  subst hsp';refine⟨b,o,rfl,?_,λj u hu=>by have:=aH j u hu;rwa[dP] at this⟩;have:=Qfx _ _ AB;simpa[Addr.add] using this
end
def Ri:ownKnob prog.godebug=none:=KJ
def laidOut0:laidOutB prog=true:=KJ
def ab5(h:(Lit.int .u64 n).wf=true):bI n:=by simp[Lit.wf,IntKind.min,IntKind.max,IntKind.signed,IntKind.bits] at h;unfold bI;omega
def is_u8(h:(Lit.int .u8 n).wf=true):aI n:=by simp[Lit.wf,IntKind.min,IntKind.max,IntKind.signed,IntKind.bits] at h;unfold aI;omega
end
section
open Go.ChangeShapes Go.WideShapes Go.ChangeAt Go.RowKit
def is_w16{n:Int}(h:(Lit.int .u16 n).wf=true):0<=n/\n<65536:=by simp[Lit.wf,IntKind.min,IntKind.max,IntKind.signed,IntKind.bits] at h;omega
section
variable {H : Type}{enc : TypeId × Va -> H}{W : Wo}{base : Nat}{v : Va}{d : DataW H}{ps : List MemPlace}
def open_entries(hv:Value.okWide prog W .any base 22 v)(h:DataW.Trod enc prog W 0 (λ_=>true) true 22 v d ps):∃l,LawL W v l:=by
 obtain⟨a,l,c,rfl⟩:=okWide_slice underlying22 hv;obtain⟨fuel,hf⟩:=h;obtain⟨xs,css,hl,hs,hx⟩:=open_list (λcs (x:LawE)=>cs=lawC x/\bI x.pr/\0<=x.bk/\x.bk<65536) underlying22 (size:=3) KJ Mx (λn cs y hl hy=>by
  match cs,hl with
  |[c0,c1,c2],_=>
   obtain⟨y0,y1,y2,m,_,hl,h0,h1,h2⟩:=Go.Deep.trod_struct3 underlying32 hy;have e0:prog.cellsOf 26=1:=KJ
   have e1:prog.cellsOf 30=1:=KJ
   have e2:prog.cellsOf 4=1:=KJ
   simp only[e0,e1,e2,Zl,Zk,Zw,Zq] at h0 h1 h2;obtain⟨n0,jU,_,w0⟩:=DataW.trod_int underlying26 h0;obtain⟨n1,j5,_,w1⟩:=DataW.trod_int underlying30 h1;obtain⟨b,hb,_⟩:=DataW.trod_bool underlying4 h2;simp at jU j5 hb;subst jU j5 hb;exact⟨⟨n0,n1,b⟩,rfl,ab5 w0,(is_w16 w1).1,(is_w16 w1).2⟩) hf
 have e:css=xs.map lawC:=by apply Qaf zaC;intro i h1 h2;have h3:i<xs.length:=zbO;rw[Qah];exact(hx i css[i] xs[i] (Qf h1) (Qf h3)).2.1
 subst e;refine⟨xs,?_,λx hm=> ?_⟩
 .rw[List.flatMap_def];exact hs
 .obtain⟨i,hi,rfl⟩:=Qbu hm;exact(hx i _ _ (Qf zal) (Qf hi)).2.2
end
end
def MO(k:Nat):aD:=⟨(k:Int)*1152921504606846976,5⟩
def TR(k:Nat):aD:=⟨7,(k:Int)+1⟩
def Pb(c:ak):Nat×Nat×List (List aD):=(c.ax,c.depth,c.ah.map (·.es))
def iS(cs:List ak):List (Nat×Nat×List (List aD)):=cs.map Pb
def MN(x:Bool)(k:Nat):aD:=if x then TR k else MO k
def wF(x:Bool):Nat->aX
 |0=>stB 200
 |k+1=>(UQ (wF x k) (Fa (wF x k)) (wS (wF x k)) (atX (wF x k)) (TT (wF x k)) (MN x k)).2
def shX(x:Bool)(k:Nat):List (Nat×Nat×List (List aD)):=
 if k<=9 then[(0,0,[(List.range k).map (MN x)])] else if x then[(0,0,[[TR 9],(List.range 9).map TR])] else[(0,1,[(List.range 8).map MO]),(128,1,[[MO 8,MO 9]])]
def zA(s:aX)(e:aD):Prop:=match Bf (TT s) (bz e) with|none=>False|some c=>e∈c.all
instance (s:aX) (e:aD):Decidable (zA s e):=by unfold zA;split<;>infer_instance
def BV(x:Bool)(k:Nat)(s:aX):Prop:=CkD s (Fa s) (wS s) (atX s) (TT s)/\s.t.len=200/\iS (TT s)=shX x k/\¬s.root 3=0/\(0<k->zA s (MN x (k - 1)))
instance (x:Bool) (k:Nat) (s:aX):Decidable (BV x k s):=by unfold BV;infer_instance
def BR(s:aX)(e:aD):Prop:=Kj s (Fa s) (wS s) (atX s) (TT s) e/\(UQ s (Fa s) (wS s) (atX s) (TT s) e).1=0
instance (s:aX) (e:aD):Decidable (BR s e):=by unfold BR;infer_instance
theorem Yo:Yf 200/\WM 200/\MkD 200:=by decide+kernel
theorem Uw:Yf 16/\WM 16/\MkD 16:=by decide+kernel
theorem ant:∀k,k<11->BV false k (wF false k)/\(k<10->BR (wF false k) (MO k)):=by decide+kernel
theorem ans:∀k,k<11->BV true k (wF true k)/\(k<10->BR (wF true k) (TR k)):=by decide+kernel
section
variable{W w:Wo}{base j k:Nat}{v:Va}{ms:List zgk}{I:bF}{x:Bool × Nat}{sh:List (Nat × Nat × List (List aD))}
def jA.cells(h:jA w base v ms){m:zgk}(hj:ms[j]? =some m):
  ∃b o c,v= el b o ms.length c/\b<w/\jp w b (o+j*4) (ac m.c.ax)/\jp w b (o+j*4+1) (ac m.c.depth)/\jp w b (o+j*4+3) m.sv:=by
 have hs:=Sl.bU h.row;have wI:=(Ql.1 hj).1;obtain⟨b,o,c,e,-,-,hr⟩:=hs.row (QO lm wI);have key:∀(l:List zgk) (j:Nat) (m:zgk) (i:Nat),l[j]? =some m->i<4->(l.flatMap wX)[j*4+i]? =(wX m)[i]? :=by
  intro l;induction l with
  |nil=>intro j m i h;simp at h
  |cons a r ih=>
   intro j m i h hi;rw[QH];have hl:(wX a).length=4:=rfl;cases j with
   |zero=>
    have h:a=m:=EQ;rw[h,Xz,QR,QN (by rw[<-h,hl];exact hi)]
   |succ j=>
    rw[QM (by rw[hl];omega),hl,show(j+1)*4+i - 4=j*4+i by omega];exact ih j m i EQ hi
 have g0:=hr.2 (j*4+0) _ (key ms j m 0 hj Fd);have g1:=hr.2 (j*4+1) _ (key ms j m 1 hj Fd);have g3:=hr.2 (j*4+3) _ (key ms j m 3 hj Fd);exact⟨b,o,c,e,hr.1,g0,by rw[<-XB] at g1;exact g1,by rw[<-XB] at g3;exact g3⟩
def uu(I:bF)(x:Bool×Nat)(W:Wo):Prop:=x.2<11/\cR W I (wF x.1 x.2)
def Im(x:Bool×Nat):List (Nat×Nat×List (List aD)):=shX x.1 x.2
def uu.on{W' :Wo}(h:uu I x W)(hb:ci W W'):uu I x W' :=⟨h.1,h.2.on hb⟩
def here:∀(x:Bool) (k:Nat),k<11->BV x k (wF x k)/\(k<10->BR (wF x k) (MN x k))
 |false=>ant
 |true=>ans
def zx(x:Bool)(hk:k<10):bI (MN x k).print/\bX (MN x k).block:=by
 cases x
 .show bI (MO k).print/\bX (MO k).block;unfold MO bI bX;dsimp only;omega
 .show bI (TR k).print/\bX (TR k).block;unfold TR bI bX;dsimp only;omega
def Px(x:Bool)(hk:k<10)(h:uu I (x,k) W):
  Calls prog 8 #[I.b,ip (MN x k).print,gc (MN x k).block] W (iF (ac 0) λw' =>uu I (x,k+1) w'/\aG (BS I) W w') :=by
 obtain⟨g1,g2⟩:=here x k h.1;have ha:=vm W I _ h.2 _ _ _ _ g1.1.ck (MN x k) (zx x hk).1 (zx x hk).2 (g2 hk).1.ok;rw[<-VW] at ha;exact ha.mono λr w' ⟨r1,r2,r3⟩=>⟨by rw[r1,(g2 hk).2],⟨Nat.succ_lt_succ hk,r2⟩,r3⟩
def VT(hk:k<10)(h:uu I (false,k) W):
  Calls prog 8 #[I.b,ip ((k:Int)*1152921504606846976),gc 5] W (iF (ac 0) λw' =>uu I (false,k+1) w'/\aG (BS I) W w') :=Px false hk h
def VS(hk:k<10)(h:uu I (true,k) W):
  Calls prog 8 #[I.b,ip 7,gc ((k:Int)+1)] W (iF (ac 0) λw' =>uu I (true,k+1) w'/\aG (BS I) W w') :=Px true hk h
def Sr(hk:k<10)(h:uu I (false,k+1) W):
  Calls prog 8 #[I.b,ip ((k:Int)*1152921504606846976),gc 5] W (iF (ac 0) λw' =>uu I (false,k+1) w'/\aG (BS I) W w') :=by
 obtain⟨g1,-⟩:=here false (k+1) h.1;obtain⟨o1,o2⟩:=zx false hk;have hm:=g1.2.2.2.2;rw[Nat.add_sub_cancel] at hm;unfold zA at hm;have e1:zq (wF false (k+1)) (Fa (wF false (k+1))) (wS (wF false (k+1))) (atX (wF false (k+1))) (TT (wF false (k+1))) (MN false k)=(0,wF false (k+1)):=by
  rw[zq,Xd (by rw[g1.2.1];show ¬((5:Int)=0\/((200:Nat):Int)<=5);decide)];split
  .rfl
  .rename_i c hc
   rw[hc] at hm;rw[Xo (hm Mx)]
 have ha:=vm W I _ h.2 _ _ _ _ g1.1.ck (MN false k) o1 o2 λc hc bT _=>by rw[hc] at hm;exact absurd (hm Mx) bT
 rw[e1] at ha;exact zfP
def Pv(h:uu I x W)(p b:Int)(hu:bI p)(hb:bX b)(h0:b=0\/200<=b):
  Calls prog 8 #[I.b,ip p,gc b] W (iF (ac 2) λw' =>uu I x w'/\aG (BS I) W w') :=by
 obtain⟨g1,-⟩:=here x.1 x.2 h.1;have eJ:b=0\/((wF x.1 x.2).t.len:Int)<=b:=g1.2.1▸h0;have ha:=vm W I _ h.2 _ _ _ _ g1.1.ck ⟨p,b⟩ hu hb λc _ _ hn=>absurd eJ hn;unfold zq at ha;rw[Xo eJ] at ha;exact zfP
def VQ(h:uu I x W):
  Calls prog 16 #[I.b] W (iF (ac 180) λw' =>ci W w') :=
 Dz W I _ h.2 (here x.1 x.2 h.1).1.1.ck.live (here x.1 x.2 h.1).1.2.2.2.1
def at_shape(cs:List ak)(n:Nat):(Bf cs n).map Pb=(iS cs).find? λt=>bY t.1 t.2.1 n:=by unfold Bf iS;rw[List.find?_map];rfl
def Oe(sh:List (Nat×Nat×List (List aD)))(p:Int):Option (List Int):=(sh.find? λt=>bY t.1 t.2.1 (p/2^56).toNat).map λt=>gu p t.2.2.flatten
def vk(h:uu I x W)(p:Int)(hp:bI p)(xs ws:Fr)(hf:Oe (Im x) p=some xs)(hl:xs.length<=12)(v:Va)(hv:Ns W W .u32 v ws)(hw:ws.Perm xs)(hs:ws.Pairwise (·<=·)):
  Calls prog 45 #[I.b,ip p,v] W (iF true λw' =>ci W w') :=by
 obtain⟨g1,-⟩:=here x.1 x.2 h.1;have h3:=at_shape (TT (wF x.1 x.2)) (p/2^56).toNat;rw[g1.2.2.1] at h3;unfold Oe Im at hf;rw[<-h3] at hf;cases kJ:Bf (TT (wF x.1 x.2)) (p/2^56).toNat with
 |none=>rw[kJ] at hf;cases hf
 |some c=>
  rw[kJ] at hf;have hf:gu p c.all=xs:=Qr hf;exact Gv W I _ h.2 _ _ _ _ g1.1.ck p hp c kJ (by rw[hf];exact hl) v ws hv (by rw[hf];exact hw) hs
def anp:∀k,k<10->Oe (Im (false,k+1)) (MO k).print=some [5]:=zaW
def ano:Oe (Im (true,10)) 7=some [10,1,2,3,4,5,6,7,8,9]:=zaW
def ann:Oe (Im (true,10)) 8=some []:=zaW
def Pw(h:uu I x W):
  Calls prog 7 #[I.b] W λr w' =>∃v ms,r= .returned (.tuple #[v,ac 0])/\jA w' W v ms/\iS (ms.map (·.c))=Im x/\ci W w' :=by
 obtain⟨g1,-⟩:=here x.1 x.2 h.1;have ha:=Ss W I _ h.2 _ _ _ _ g1.1.ck.ok;exact ha.mono λr w' ⟨v,ms,r1,r2,r3,r4⟩=>⟨v,ms,r1,r2,by rw[r3];exact g1.2.2.1,r4⟩
def KC(h:iS (ms.map (·.c))=sh){t:Nat×Nat×List (List aD)}(hj:sh[j]? =some t):∃m,ms[j]? =some m/\m.c.ax=t.1/\m.c.depth=t.2.1/\m.c.ah.map (·.es)=t.2.2:=by
 rw[<-h] at hj;unfold iS at hj;rw[Qt,Qt] at hj;cases hm:ms[j]? with
 |none=>rw[hm] at hj;cases hj
 |some m=>
  rw[hm] at hj;have hj:=Qr hj;exact⟨m,rfl,by rw[<-hj];rfl,by rw[<-hj];rfl,by rw[<-hj];rfl⟩
def KA(h:iS (ms.map (·.c))=sh):ms.length=sh.length:=by rw[<-h];unfold iS;simp
def lU(h:jA w base v ms)(hs:iS (ms.map (·.c))=sh){fr dp:Nat}{es:List aD}{r:List (List aD)}(hj:sh[j]? =some (fr,dp,es::r)):
  ∃b o c b2 o2 c2 Ae ce,v= el b o sh.length c/\jp w b (o+j*4) (ac fr)/\jp w b (o+j*4+1) (ac dp)/\jp w b (o+j*4+3) (el b2 o2 (r.length+1) c2)/\jp w b2 (o2+2) (am Ae es.length ce):=by
 obtain⟨m,m1,m2,m3,m4⟩:=KC hs hj;obtain⟨b,o,c,e,-,g0,g1,g3⟩:=h.cells m1;have ho:=h.all m (Qi m1);have fc:(m.ps.map Prod.fst).map (·.es)=es::r:=ho.p▸m4
 cases hp:m.ps with
 |nil=>rw[hp] at fc;cases fc
 |cons q ps=>
  rw[hp] at fc;have hq:q.1.es=es:=by simpa using XF List.head? fc
  have hl:m.ps.length=r.length+1:=by rw[hp];have:=XF List.length fc;exact zdO
  obtain⟨b2,o2,c2,e2,-,-,-,z2⟩:=ho.s.Wa.cells (k:=0) (p:=q) (by rw[hp];rfl);obtain⟨Ae,ce,e3⟩:=(ho.s.es q (hp▸(Qm ..))).1.form;rw[Xz,XC,e3,hq] at z2;rw[hl] at e2;rw[e2] at g3;rw[KA hs] at e;rw[m2] at g0;rw[m3] at g1;exact⟨b,o,c,b2,o2,c2,Ae,ce,e,g0,g1,g3,z2⟩
end
end Go.Proofs.YtjjomjobllcleaaGreat

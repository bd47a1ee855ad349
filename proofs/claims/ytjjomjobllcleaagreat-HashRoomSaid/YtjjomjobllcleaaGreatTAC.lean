/- HashRoom, part 3 of 8: parts of its walks and laws, each true as it stands. -/
import Derived.WideKeyEntry
import Derived.Test.YtjjomjobllcleaaGreatTAB
set_option maxHeartbeats 16000000
set_option maxRecDepth 100000
set_option linter.all false
namespace Go.Proofs.YtjjomjobllcleaaGreat
open Go.Proofs.Tryz
open List (replicate range)
open Go.RowKit
section
variable{s:aX}{hold:GT}{b i n:Nat}{au l:Fr}{x:aN}
structure CmtOk(s:aX)(hold:GT)(s' :aX):Prop where
 inv:BInv s' hold
 kin:KInv s'
 rd:∀b∈hold,s'.read b=s.read b
 root:∀i,2<=i->s'.root i=s.root i
 marks:s'.eO.marks=s.eO.marks
 gen:s'.kept.gen<=s.kept.gen+1
 len:s'.t.len=s.t.len
 keep:s' =kSt s' s'.next
def fresh_hold(h:BInv s hold)(k:KInv s)(hf:s.ik b=true):b∈hold:=by
 have hg:=h.fr b hf;have hb:b<s.t.len:=by
  rw[<-h.ok.fr];obtain h1|h1:=Qae b s.fresh.length
  .exact h1
  .unfold aX.ik at hf;rw[Qe,QQ h1] at hf;cases hf
 obtain h1|h1:=h.rest b hb hg
 .exact h1
 .have:=(k.rg _ (Qz.2 h1)).2.2.2.2;rw[Xt,hf] at this;cases this
def unchanged(h:BInv s hold)(k:KInv s)(hc:s.t.changed.length=0)(hs:s.eO=s.kept):s=kSt s s.next:=by
 have hn:∀b,b<s.t.len->s.t.kept.getD b none=none:=λb hb=>by
  have h1:=List.length_eq_zero_iff.1 hc;unfold aE.changed at h1;rw[List.filter_eq_nil_iff] at h1;have:=h1 b (Zm.2 hb);cases hk:s.t.kept.getD b none with
  |none=>rfl
  |some c=>rw[hk] at this;exact absurd rfl this
 have hk:s.t.kept=replicate s.t.len none:=by refine Qaf (QK▸h.tok.J0) λi h1 h2=> ?_;have:=hn i (h.tok.J0▸h1);rw[Qe,Qf h1] at this;rw[List.getElem_replicate];exact this
 have hw:∀b,b<s.t.len->s.t.mE b=s.t.get b:=λb hb=>by rw[aE.mE,hn b hb];rfl
 have ht:s.t=aE.of (wasL s.t):=by
  have h1:=of_kept h.tok hk;have h2:wasL s.t=s.t.counts:=by rw[counts_eq];unfold wasL;exact Zj λb hb=>hw b (Zm.1 hb)
  rw[h2];exact h1
 have hf:s.fresh=replicate s.t.len none:=by
  refine Qaf (QK▸h.ok.fr) λi h1 h2=> ?_;rw[List.getElem_replicate];cases hx:s.fresh[i] with
  |none=>rfl
  |some d=>
   have hi:s.ik i=true:=(by rw[aX.ik,Qe,Qf h1,hx];rfl);have hm:=fresh_hold h k hi;obtain⟨-,o2,o3,-,-,o6⟩:=h.own i hm;rw[hi,hw i o2,o3] at o6;cases o6
 have hl:=h.live;obtain⟨bl,t,next,ag,au,fresh,eO,kept,slot,broken⟩:=s;unfold kSt;dsimp only at*;subst hs hl hf;rw[<-ht]
def map_getD(l:Fr):(range l.length).map (λi=>l.getD i 0)=l:=by refine Qaf Sv λi h1 h2=> ?_;rw[Qah,Qbp,Qe,Qf h2];rfl
def which_sub(l:Fr)(p:List Bool)(h:p.length=l.length):((gG p).map λi=>l.getD i 0).Sublist l:=by
 have h1:((gG p).map λi=>l.getD i 0).Sublist ((range l.length).map λi=>l.getD i 0):=by rw[gG,h];exact List.Sublist.map _ List.filter_sublist
 rw[map_getD] at h1;exact h1
def mem_which{p:List Bool}:i∈gG p↔p.getD i false=true:=by
 rw[gG,Qia,Zm];constructor
 .exact λh=>h.2
 .intro h;refine⟨?_,h⟩;obtain h1|h1:=Qae i p.length
  .exact h1
  .rw[Qe,QQ h1] at h;cases h
def getD_get(h:i<l.length):l[i]? =some (l.getD i 0):=by rw[Qe,Qf h];rfl
def rooted_roots(x:aN)(au:Fr):(qE x au).roots=[au.getD 0 0,au.getD 1 0]++x.roots.drop 2:=rfl
def rooted_ok(h:bM x)(hn:n<=4096)(hd:∀d∈au,0<=d/\d<n)(g:Int)(hg:bI g):bM {qE x au with gen:=g}:=by
 refine⟨?_,h.m8,hg,h.b,?_,h.m⟩
 .show(qE x au).roots.length=8;rw[rooted_roots,Qo,Zt,h.r8];rfl
 .show ∀r∈(qE x au).roots,bX r;intro r hr;rw[rooted_roots] at hr;have key:∀i,bX (au.getD i 0):=λi=>by
   rw[bX,Qe];cases hx:au[i]? with
   |none=>exact⟨Fd,Fd⟩
   |some d=>
    have:=hd d (Qi hx);show 0<=d/\d<_;omega
  obtain hr|hr:=Qz.1 hr
  .rcases QA.1 hr with rfl|hr
   .exact key 0
   .rw[Qx.1 hr];exact key 1
  .exact h.r r (Q6 hr)
def rooted_right(h16:16<=n)(hn:n<=4096)(hb:x.blocks=n)(hr:∀r∈x.roots,r<n)(hd:∀d∈au,0<=d/\d<n)(g:Int)(hg:0<g):nm {qE x au with gen:=g}=true:=by
 unfold nm;simp only[XR,Qad,XT];refine⟨⟨⟨hg,by show 16<=x.blocks;omega⟩,by show x.blocks<=4096;omega⟩,λr hm=> ?_⟩;show r<x.blocks;have hm:=hm;rw[rooted_roots] at hm;have key:∀i,au.getD i 0<n:=λi=>by
  rw[Qe];cases hx:au[i]? with
  |none=>show(0:Int)<n;omega
  |some d=>exact(hd d (Qi hx)).2
 rw[hb];obtain h|h:=Qz.1 hm
 .rcases QA.1 h with rfl|h
  .exact key 0
  .rw[Qx.1 h];exact key 1
 .exact hr r (Q6 h)
def rooted_twice(x:aN)(au:Fr)(g:Int):qE {qE x au with gen:=g} au={qE x au with gen:=g}:=by unfold qE;simp only;congr 1
def rooted_take(x:aN)(au:Fr)(h1:1<=au.length)(h2:au.length<=2):au=(qE x au).roots.take au.length:=by
 rw[rooted_roots]
 match au,h1,h2 with
 |[a],_,_=>rfl
 |[a,b],_,_=>rfl
def dirs_two(h:Yj s)(h16:16<=s.t.len)(hn:s.t.len<=4096):s.au.length=mN s.t.len/\1<=s.au.length/\s.au.length<=2/\s.ag.length=kN s.t.len:=by
 have h1:=h.pg;have h2:=h.dg;have e:mN s.t.len=s.au.length:=by rw[mN,<-h1,<-h2,Xt]
 have e2:kN s.t.len=s.ag.length:=by rw[kN,<-h1,Xt]
 unfold aR at h1 h2;rw[Xd Mx] at h1;rw[Xd Mx] at h2;exact⟨e.symm,Mx,Mx,e2.symm⟩
def part_ext{m:Fr}(hl:l.length=m.length)(h:∀b,61*i<=b->b<61*(i+1)->l.getD b 0=m.getD b 0):bG l i=bG m i:=by
 refine Qal λk=> ?_;unfold bG;rw[Ze,Ze];split
 .rw[Zb,Zb];have:=h (61*i+k) Mx Mx;rw[Qe,Qe] at this;obtain h1|h1:=Qae (61*i+k) l.length
  .rw[Qf h1,Qf (hl▸h1)] at this|-;exact XF some this
  .rw[QQ h1,QQ (hl▸h1)]
 .rfl
def wasL_getD{t:aE}(h:b<t.len):(wasL t).getD b 0=t.mE b:=by rw[wasL,Qe,Qt,Qam h];rfl
structure Writ(s:aX)(hold:GT)(x:fk)(bl' :List (List Int))(d:Fr):Prop where
 len:bl'.length=s.bl.length
 rd:∀b∈hold,bl'.getD b []=s.read b
 eL:∀i,i<x.ag.length->bl'.getD (x.ag.getD i 0).toNat []=if x.pp.getD i false=true then encI 5 (eI x.t i) else s.bl.getD (x.ag.getD i 0).toNat []
 dir:∀i,i<x.au.length->bl'.getD (x.au.getD i 0).toNat []=if x.pd.getD i false=true then encI 4 (bG x.ag i) else s.bl.getD (x.au.getD i 0).toNat []
 new:bl'.getD (1 - s.slot) []=d
 wG:bl'.getD s.slot []=s.bl.getD s.slot []
 Ej:∀p∈bl',p.length=128/\∀y∈p,aI y
def writeV_blk:∀(ws:List (Int×List Int)) (bl:List (List Int)),(∀p∈bl,p.length=128/\∀y∈p,aI y)->(∀w∈ws,w.2.length=128/\∀y∈w.2,aI y)->∀p∈eS bl ws,p.length=128/\∀y∈p,aI y
 |[],bl,h,_=>h
 |w::r,bl,h,hw=>by
  rw[writeV_cons];refine writeV_blk r _ (λp hp=> ?_) λw' s9 =>hw w' (Qs _ s9);obtain h1|h1:=Zz hp
  .exact h p h1
  .rw[h1];exact hw w (Qm ..)
def counts61(t:aE)(i:Nat):(eI t i).length<=61:=by unfold eI;simp;omega
def writ_ok(h:BInv s hold)(k:KInv s){x:fk}(G:PlG hold s.t s.ag s.au x)(hf:x.fst=none)(d:Fr)(hd:d.length=128/\∀y∈d,aI y):
  Writ s hold x (eS (eS s.bl ((((range s.fresh.length).filter λb=>(s.fresh.getD b none).isSome).map λ(b:Nat)=>((b:Int),(s.fresh.getD b none).getD []))++pagedV x.t x.ag x.au (gG x.pp) (gG x.pd))) [(1 - (s.slot:Int),d)]) d:=by
 obtain⟨f1,f2⟩:=fst_done hf;have hz:∀y∈x.ag++x.au,y≠0:=λy hy=>by
  obtain hy|hy:=Qz.1 hy
  .obtain⟨i,hi⟩:=Qab hy;have hil:=(Ql.1 hi).1;rw[getD_get hil] at hi;rw[<-Qr hi];obtain h1|h1:=f1 i hil
   .exact(G.new i h1).1
   .exact h1.1
  .obtain⟨i,hi⟩:=Qab hy;have hil:=(Ql.1 hi).1;rw[getD_get hil] at hi;rw[<-Qr hi];obtain h1|h1:=f2 i hil
   .exact(G.newd i h1).1
   .exact h1.1
 have h2z:∀y∈x.ag++x.au,2<=y:=λy hy=>(G.one y hy (hz y hy)).1;have hzn:=idx_nodup λi j y hi hj=>G.nd i j y hi hj (hz y (Qi hi));have⟨FL,hFL⟩:=eXa ((range s.fresh.length).filter λb=>(s.fresh.getD b none).isSome);have⟨fr,eo⟩:=eXa (FL.map λ(b:Nat)=>((b:Int),(s.fresh.getD b none).getD []));have⟨pg,tz⟩:=eXa (pagedV x.t x.ag x.au (gG x.pp) (gG x.pd));rw[<-hFL,<-eo,<-tz];have eF:fr.map (·.1.toNat)=FL:=by
  rw[eo,Qbg]
  conv=>rhs;rw[<-List.map_id FL]
  exact Zj λb _=>Sv
 have⟨PA,hPA⟩:=eXa ((gG x.pp).map (λi=>x.ag.getD i 0)++(gG x.pd).map λi=>x.au.getD i 0);have eP:pg.map (·.1.toNat)=PA.map Int.toNat:=by rw[tz,hPA];rw[pagedV,QL,QL,Qbg,Qbg,Qbg,Qbg];rfl
 have hPs:PA.Sublist (x.ag++x.au):=hPA▸(List.Sublist.append (which_sub _ _ G.ok.lp) (which_sub _ _ G.ok.ld));have hFh:∀b∈FL,b∈hold:=λb hb=>by rw[hFL] at hb;exact fresh_hold h k (Qia.1 hb).2
 have hPh:∀b∈PA.map Int.toNat,b∉hold:=λb hb=>by obtain⟨y,hy,rfl⟩:=QU.1 hb;have:=hPs.subset hy;exact G.nhd y this (hz y this)
 have im:((fr++pg).map (·.1.toNat)).Nodup:=by
  rw[QL,eF,eP];refine List.nodup_append.2 ⟨?_,?_,λa ha b hb e=>hPh b hb (e▸hFh a ha)⟩
  .rw[hFL];exact Qgj _ List.nodup_range
  .exact toNat_nodup (hPs.nodup hzn) λy hy=>by have:=h2z y (hPs.subset hy);omega
 have pj:∀b∈(fr++pg).map (·.1.toNat),2<=b:=λb hb=>by
  rw[QL,eF,eP] at hb;obtain hb|hb:=Qz.1 hb
  .exact(h.own b (hFh b hb)).1
  .obtain⟨y,hy,rfl⟩:=QU.1 hb;have:=h2z y (hPs.subset hy);omega
 have kr:=h.ok.slot;have⟨B1,hB1⟩:=eXa (eS s.bl (fr++pg));rw[<-hB1];have e1:(1 - (s.slot:Int)).toNat=1 - s.slot:=Mx;have hB:∀b,b≠1 - s.slot->(eS B1 [(1 - (s.slot:Int),d)]).getD b []=B1.getD b []:=λb hb=>writeV_not _ _ _ (by simp only[Zs,Qfh,Qx];rw[e1];exact hb);have hlen:B1.length=s.bl.length:=by rw[hB1,wrV_len]
 have hlr:∀y∈x.ag++x.au,y.toNat<s.bl.length:=λy hy=>by have:=G.ok.rg y hy;rw[G.len] at this;rw[h.ok.bl];omega
 have N3:∀(m:Nat) (y:Int),(x.ag++x.au)[m]? =some y->(m<x.ag.length->x.pp.getD m false=false)->(x.ag.length<=m->x.pd.getD (m - x.ag.length) false=false)->y.toNat∉(fr++pg).map (·.1.toNat):=λm y hm g1 g2 hb=>by
  have hym:=Qi hm;rw[QL,eF,eP] at hb;obtain hb|hb:=Qz.1 hb
  .exact G.nhd y hym (hz y hym) (hFh _ hb)
  .obtain⟨y',hy',e⟩:=QU.1 hb;have hyy:y' =y:=(by have:=h2z y hym;have:=h2z y' (hPs.subset hy');omega);rw[hyy,hPA] at hy';obtain hy' |hy':=Qz.1 hy'
   .obtain⟨i,hi,e2⟩:=QU.1 hy';have hip:=mem_which.1 hi;have hil:i<x.ag.length:=by
     obtain h1|h1:=Qae i x.ag.length
     .exact h1
     .rw[Qe,QQ (G.ok.lp▸h1)] at hip;cases hip
    have hx:(x.ag++x.au)[i]? =some y:=(by rw[QN hil,getD_get hil,e2]);have:=G.nd m i y hm hx (hz y hym);rw[this] at g1;rw[g1 hil] at hip;cases hip
   .obtain⟨i,hi,e2⟩:=QU.1 hy';have hip:=mem_which.1 hi;have hil:i<x.au.length:=by
     obtain h1|h1:=Qae i x.au.length
     .exact h1
     .rw[Qe,QQ (G.ok.ld▸h1)] at hip;cases hip
    have hx:(x.ag++x.au)[x.ag.length+i]? =some y:=(by rw[QM Mx,Qbe,getD_get hil,e2]);have:=G.nd m _ y hm hx (hz y hym);rw[this] at g2;have g2:=g2 Mx;rw[Qbe,hip] at g2;cases g2
 refine⟨by rw[wrV_len,hlen],λb hb=> ?_,λi hi=> ?_,λi hi=> ?_,?_,?_,?_⟩
 .obtain⟨o1,o2,-⟩:=h.own b hb;rw[hB b Mx,hB1];unfold aX.read;by_cases wB:s.ik b=true
  .have hm:((b:Int),(s.fresh.getD b none).getD [])∈fr++pg:=(by refine QB _ ?_;rw[eo,hFL];exact QU.2 ⟨b,Qia.2 ⟨Zm.2 (h.ok.fr▸o2),wB⟩,rfl⟩);have:=writeV_mem (fr++pg) s.bl _ im hm (by show(b:Int).toNat<_;rw[Xt,h.ok.bl];exact o2);have this:=this;rw[Xt] at this;rw[this];unfold aX.ik at wB;cases hx:s.fresh.getD b none with
   |none=>rw[hx] at wB;cases wB
   |some v=>rfl
  .rw[writeV_not _ _ _ λhm=> ?_]
   .unfold aX.ik at wB;cases hx:s.fresh.getD b none with
    |none=>rfl
    |some v=>rw[hx] at wB;exact absurd rfl wB
   .rw[QL,eF,eP] at hm;obtain hm|hm:=Qz.1 hm
    .rw[hFL] at hm;exact wB (Qia.1 hm).2
    .exact hPh b hm hb
 .have Wv:x.ag.getD i 0∈x.ag++x.au:=QB _ (Qi (getD_get hi));have hy2:=h2z _ Wv;rw[hB _ Mx,hB1];by_cases hp:x.pp.getD i false=true
  .rw[Xo hp];refine writeV_mem (fr++pg) s.bl (x.ag.getD i 0,encI 5 (eI x.t i)) im (QD _ ?_) (hlr _ Wv);rw[tz];exact QB _ (QU.2 ⟨i,mem_which.2 hp,rfl⟩)
  .rw[Xd hp];refine writeV_not _ _ _ (N3 i _ (by rw[QN hi,getD_get hi]) (λ_=>by simpa using hp) λhle=>Mx)
 .have Wv:x.au.getD i 0∈x.ag++x.au:=QD _ (Qi (getD_get hi));have hy2:=h2z _ Wv;rw[hB _ Mx,hB1];by_cases hp:x.pd.getD i false=true
  .rw[Xo hp];refine writeV_mem (fr++pg) s.bl (x.au.getD i 0,encI 4 (bG x.ag i)) im (QD _ ?_) (hlr _ Wv);rw[tz];exact QD _ (QU.2 ⟨i,mem_which.2 hp,rfl⟩)
  .rw[Xd hp];refine writeV_not _ _ _ (N3 (x.ag.length+i) _ (by rw[QM Mx,Qbe,getD_get hi]) (λaJ=>Mx) λ_=> ?_);rw[Qbe];simpa using hp
 .have h16:=h.n16;have:=writeV_mem [(1 - (s.slot:Int),d)] B1 (1 - (s.slot:Int),d) Sv (Qx.2 rfl) (by show(1 - (s.slot:Int)).toNat<_;rw[e1,hlen,h.ok.bl];omega);have this:=this;rw[e1] at this;exact this
 .rw[hB _ Mx,hB1];exact writeV_not _ _ _ λhm=>by have:=pj _ hm;omega
 .refine writeV_blk _ _ ?_ λw hw=>by rw[Qx.1 hw];exact hd
  rw[hB1];refine writeV_blk _ _ k.Ej λw hw=> ?_;obtain hw|hw:=Qz.1 hw
  .rw[eo] at hw;obtain⟨b,hb,rfl⟩:=QU.1 hw;rw[hFL] at hb;obtain⟨b1,b2⟩:=Qia.1 hb;have b1:=Zm.1 b1;cases hx:s.fresh.getD b none with
   |none=>rw[hx] at b2;cases b2
   |some v=>
    show v.length=128/\_;refine h.ok.fd v ?_;rw[Qe,Qf b1] at hx;have hx:=hx;rw[<-hx];exact QI b1
  .rw[tz] at hw;obtain hw|hw:=Qz.1 hw
   .exact zfZ
   .obtain⟨i,-,rfl⟩:=QU.1 hw;exact lY IN (yk _ _)
variable{j dep:Nat}{s:Nat × Int}{ae:List (Nat × Int)}
def expand(ae:List (Nat×Int)):List Int:=ae.flatMap λs=>replicate s.1 s.2
def aC(ae:List (Nat×Int))(j:Nat):Nat:=((ae.take j).map Prod.fst).sum
def jS(ae:List (Nat×Int)):(expand ae).length=(ae.map Prod.fst).sum:=by
 induction ae with
 |nil=>rfl
 |cons s r ih=>unfold expand at ih|-;rw[QH,Qo,ih,QK,Zs,Qgs]
def qS(ae:List (Nat×Int)):aC ae 0=0:=rfl
def bH(ae:List (Nat×Int))(j:Nat)(s:Nat×Int)(h:ae[j]? =some s):aC ae (j+1)=aC ae j+s.1:=by unfold aC;obtain⟨hj,rfl⟩:=Ql.1 h;rw[XJ hj,QL,Qhy];simp
def nM(ae:List (Nat×Int))(j:Nat)(h:ae.length<=j):aC ae j=(expand ae).length:=by rw[aC,Qj h,jS]
def fH(ae:List (Nat×Int))(j:Nat):aC ae j<=(expand ae).length:=by
 rw[jS];unfold aC
 conv=>rhs;rw[<-XW j ae,QL,Qhy]
 omega
def zY(ae:List (Nat×Int))(j:Nat)(s:Nat×Int)(h:ae[j]? =some s):expand ae=expand (ae.take j)++(replicate s.1 s.2++expand (ae.drop (j+1))):=by
 obtain⟨hj,rfl⟩:=Ql.1 h
 conv=>lhs;rw[<-XW j ae,Zd hj]
 unfold expand;rw[QP,QH]
def mA(ae:List (Nat×Int))(j:Nat):(expand (ae.take j)).length=aC ae j:=jS _
def eh(ae:List (Nat×Int))(j:Nat)(s:Nat×Int)(h:ae[j]? =some s)(i:Nat)(hi:i<s.1):(expand ae)[aC ae j+i]? =some s.2:=by rw[zY ae j s h,QM (by rw[mA];omega),mA,QN (by rw[QK];omega)];rw[show aC ae j+i - aC ae j=i by omega];simp[hi]
def lo(ae:List (Nat×Int))(k:Nat)(hk:k<(expand ae).length):∃j s i,ae[j]? =some s/\i<s.1/\k=aC ae j+i:=by
 induction ae generalizing k with
 |nil=>simp[expand] at hk
 |cons s r ih=>
  by_cases h:k<s.1
  .exact⟨0,s,k,rfl,h,by simp[aC]⟩
  .have si:k - s.1<(expand r).length:=(by rw[jS] at hk|-;rw[Zs,Qgs] at hk;omega);obtain⟨j,s',i,h1,h2,h3⟩:=ih (k - s.1) si;refine⟨j+1,s',i,zau,h2,?_⟩;have:aC (s::r) (j+1)=s.1+aC r j:=(by simp[aC]);omega
structure eQ(dep:Nat)(ae:List (Nat×Int)):Prop where
 d8:dep<=8
 sum:(expand ae).length=2^dep
 nd:(ae.map Prod.snd).Nodup
 Ej:∀s∈ae,0<s.2/\s.2<4096
 two:∀(j:Nat) (s:Nat×Int),ae[j]? =some s->∃e,e<=dep/\s.1=2^e/\aC ae j%s.1=0
section
def eQ.pos(h:eQ dep ae)(hs:ae[j]? =some s):0<s.1:=by obtain⟨e,-,h1,-⟩:=h.two j s hs;rw[h1];exact Qba e
def eQ.len(h:eQ dep ae):(expand ae).length<=256:=by rw[h.sum];exact Qh (Qcr Fd h.d8) Fd
def eQ.many(h:eQ dep ae):ae.length<=256:=by
 have key:∀l:List (Nat×Int),(∀s∈l,0<s.1)->l.length<=(l.map Prod.fst).sum:=by
  intro l;induction l with
  |nil=>intro _;simp
  |cons a r ih=>
   intro ha;have h1:=ih λs hs=>ha s (by simp[hs]);have h2:=ha a Sv;rw[QF,Zs,Qgs];omega
 have:=key ae λs hs=>by obtain⟨j,hj⟩:=Qab hs;exact h.pos hj
 rw[<-jS] at this;exact Qh this h.len
def eQ.next(h:eQ dep ae)(hs:ae[j]? =some s):aC ae j+s.1=(expand ae).length\/∃y,(expand ae)[aC ae j+s.1]? =some y/\y≠s.2:=by
 obtain h1|h1:=Qae (j+1) ae.length
 .refine .inr ⟨ae[j+1].2,?_,λe=> ?_⟩
  .have Ey:=Qf h1;have:=eh ae (j+1) _ Ey 0 (h.pos Ey);rw[bH ae j s hs,XC] at this;exact this
  .obtain⟨hj,he⟩:=Ql.1 hs;have:=(Qio.1 h.nd) j (j+1) zaU zau (XL j);rw[Qah,Qah,he] at this;exact this e.symm
 .exact .inl (by rw[<-bH ae j s hs,nM ae (j+1) h1])
def eQ.ahead(h:eQ dep ae)(hs:ae[j]? =some s):aC ae j=0\/∃y,(expand ae)[aC ae j - 1]? =some y/\y≠s.2:=by
 cases j with
 |zero=>exact .inl rfl
 |succ j=>
  obtain⟨hj,he⟩:=Ql.1 hs;have Ey:ae[j]? =some ae[j]:=Qf Mx;refine .inr ⟨ae[j].2,?_,λe=> ?_⟩
  .have hp:=h.pos Ey;have:=eh ae j _ Ey (ae[j].1 - 1) Mx;rw[bH ae j _ Ey];rwa[show aC ae j+ae[j].1 - 1=aC ae j+(ae[j].1 - 1) by omega]
  .have:=(Qio.1 h.nd) j (j+1) BY zaU (XL j);rw[Qah,Qah,he] at this;exact this e
end
attribute [local go_sem] Oper.semAt_some
variable{w:Wo}{I:bF}{ps:List (Option (Nat × Nat))}{fr:List (Option (List Int))}{data:Fr}
def aE.zB(t:aE)(next:Nat)(h0:2<=t.len)(h1:2<=next):∃b:Nat,(t.take 2 next).1=b/\b<t.len:=by
 unfold aE.take;cases hf:t.find 2 next with
 |none=>exact⟨0,rfl,Mx⟩
 |some k=>
  obtain⟨k1,k2,-⟩:=aE.Jq h1 hf;exact⟨k,rfl,Mx⟩
def lh{α:Type}(l:List (Option α))(b i:Nat)(y:Option α)(hb:b<l.length):(l.set b y).getD i none=if i=b then y else l.getD i none:=by
 rw[Qe,Qbl];by_cases h:i=b
 .subst h;simp[hb]
 .rw[Xd (λe=>h e.symm),Xd h,Qe]
def df.put(h:df w I ps fr)(hb:b<fr.length){g c:Nat}(hd:Bs w w (sw (some (g,c))) data)(hg:¬BS I g)(hl:data.length=128):
  df w I (ps.set b (some (g,c))) (fr.set b (some data)):=by
 refine⟨by simp[h.1],λi=> ?_⟩;rw[lh _ _ _ _ (h.1▸hb),lh _ _ _ _ hb];split
 .exact .inr ⟨g,c,data,rfl,rfl,hd,hg,hl⟩
 .exact h.2 i
def df.cut(h:df w I ps fr)(hb:b<fr.length):
  df w I (ps.set b none) (fr.set b none):=by
 refine⟨by simp[h.1],λi=> ?_⟩;rw[lh _ _ _ _ (h.1▸hb),lh _ _ _ _ hb];split
 .exact .inl ⟨rfl,rfl⟩
 .exact h.2 i
def Cq(ps:List (Option (Nat×Nat)))(b:Nat)(y:Option (Nat×Nat)):jf (ps.set b y)=(jf ps).set b (y.map some):=by unfold jf;rw[Qem]
def Cr(ps:List (Option (Nat×Nat))):(jf ps).length=ps.length:=Qq _
def sS(h:MG Ud w I.fb (du (jf ps)) (nS (jf ps)))(hl:ps.length<=4096)(hb:b<ps.length)(g c:Nat):
  ∃w',(Instr.mapUpdate 56 (.map (some I.fb)) (ac b) (el g 0 128 c)).run prog w= .ok () w'/\MG Ud w' I.fb (du (jf (ps.set b (some (g,c))))) (nS (jf (ps.set b (some (g,c)))))/\w.grownBy w' (some I.fb):=by
 have hn:=Yq (jf ps);rw[Cr] at hn;obtain⟨w',h1,h2,h3⟩:=h.store Mx (x:=(b:Int)) (mo Mx) (some (g,c));refine⟨w',h1,?_,h3⟩;have sq:b<(jf ps).length:=by rw[Cr];exact hb
 rw[gN,yy _ _ sq,<-zH _ _ _ sq] at h2;rw[Cq];exact h2
def Gu(h:MG Ud w I.fb (du (jf ps)) (nS (jf ps)))(b:Nat)(hb:b<100000)(ty:Fy):
  ∃w',(Builtin.delete_ #[56,3] ty #[.map (some I.fb),ac b]).run prog w= .ok (.tuple #[]) w'/\MG Ud w' I.fb (du (jf (ps.set b none))) (nS (jf (ps.set b none)))/\w.grownBy w' (some I.fb):=by
 obtain⟨w',h1,h2,h3⟩:=h.drop (x:=(b:Int)) (mo Mx) ty;refine⟨w',h1,?_,h3⟩;rw[gN,yz,<-zI] at h2;rw[Cq];exact h2
def cR.Pf{w1 w2:Wo}{s:aX}(h:cR w I s){pv dv:Va}(c:dB w I s pv dv ps){S:FV}(hS:∀x,S x->x=I.pb\/TS I.tb I.cb I.mb x)(hc:aG S w w1)(hg:w1.grownBy w2 (some I.fb))
  {t:aE} {next:Nat} (ht:bf w1 I.tb I.cb I.mb t) (hp:aq w1 I.pb 131 (iX I.tb 2 next)) {DX :List (Option (Nat×Nat))}
  (hm:MG Ud w2 I.fb (du (jf DX)) (nS (jf DX))) (hf:df w2 I DX fr) (ec:Yj {s with t:=t,next:=next,fresh:=fr}):
  cR w2 I {s with t:=t,next:=next,fresh:=fr}:=by
 obtain⟨f1,f2,f3,f4,f5,f6,f7⟩:=h.J5;obtain⟨-,hd⟩:=h.Fp hS hc;have yZ:¬S I.b:=by
  intro hs;obtain⟨n1,n2,n3,n4,n5,n6,n7⟩:=h.uJ;obtain e|e|e|e:=hS _ hs
  .exact n6 e
  .exact n3 e
  .exact n4 e
  .exact n5 e
 have hSB:∀x,S x->BS I x:=λx hx=>IV x (hS x hx);have jY:=aG.dH hg (λx _ e=>(Qr e).symm);have Bb:∀x,x=I.fb->BS I x:=λx e=>zbd
 have p1:=Sl.more (Sl.aL c.ag hc go (c.ed.mono hSB)) hc.size;have d1:=Sl.more (Sl.aL c.au hc go (c.fT.mono hSB)) hc.size;refine⟨⟨pv,dv,DX,(c.own.aL hc yZ).aL jY (Xm f7),Sl.more (Sl.aL p1 jY go (c.ed.mono Bb)) jY.size,c.ed,Sl.more (Sl.aL d1 jY go (c.fT.mono Bb)) jY.size,c.fT,hm,hf⟩,
  ⟨hd.own.aL jY (Xm f1),hd.eP.aL jY (Xm f2),hd.ne,hd.size,hd.byte,hd.n0,hd.n1⟩,ht.aL jY (Xm f3) (Xm f4) (Xm f5),hp.aL jY (Xm f6),h.mf,ec⟩
def Ph{v:Va}(h:kR w b v data)(hl:data.length=128):∃g c,v= el g 0 128 c/\b<=g/\g<w:=by unfold kR at h;rw[hl] at h;obtain⟨g,c,rfl⟩:=ownsRow_succ h;have:=Xr h g rfl;exact⟨g,c,rfl,this.1,this.2⟩
def yf(w:Wo)(I:bF)(s:aX)(h:cR w I s)(v:Va)(data:Fr)(hd:Bs w w v data)(ha:Ap (BS I) v):
  Calls prog 57 #[I.b,v] w (iF (.tuple #[ac (s.put data).1,ac (s.put data).2.1]) λw' =>cR w' I (s.put data).2.2/\aG (BS I) w w') :=by
 have HM:=aa (nJ w I s h);have HR:=aa (ou w I s h);obtain⟨A,c,rfl,-,-⟩:=hd.1.form;have hn:=h.n0;by_cases e8:s.broken=true
 .have es:s.put data=(0,111,s):=by rw[aX.put,Xo e8]
  have em:s.may=111:=by rw[aX.may,Xo e8]
  rw[em] at HM;rw[es];have H:=aa h;clear h hd ha hn e8 em es;go_in;go_wp2_with(go_at_call 33;refine PP HM.o ?_);go_ret2;exact zed
 .have em:s.may=0:=by rw[aX.may,Xd e8]
  rw[em] at HM;by_cases hl:data.length=128
  .by_cases hr:s.room=0
   .have es:s.put data=(0,90,s):=by rw[aX.put,Xd e8,Xd zdy,Xo hr]
    rw[hr] at HR;rw[es,hl];have H:=aa h;clear h hd ha hn e8 em es hr hl;go_in;go_wp2_with(first
     |(go_at_call 33;refine PP HM.o ?_)
     |(go_at_call 6;refine PP HR.o ?_))
    go_ret2;exact zed
   .have es:s.put data=((s.t.take 2 s.next).1,(s.t.take 2 s.next).2.1,{s with t:=(s.t.take 2 s.next).2.2.1,next:=(s.t.take 2 s.next).2.2.2,fresh:=s.fresh.set (s.t.take 2 s.next).1.toNat (some data)}):=(by rw[aX.put,Xd e8,Xd zdy,Xd hr]);have ft:=Xc hr;have HT:=aa (qK w I.pb I.tb I.cb I.mb 2 s.next s.t h.pick h.fh h.ok.n2 h.ok.nl);obtain⟨b,hb,fg⟩:=s.t.zB s.next Mx h.ok.n2;obtain⟨k1,k2,k3,-,-⟩:=s.t.lM s.next h.ok.n2 h.ok.nl;have x2:=h.x2;obtain⟨pv,dv,ps,hc⟩:=h.cells;have Hc:=aa hc;have H:=aa h;have Hd:=aa (show Bs w w (am A 128 c) data by rw[<-hl];exact hd);have Ha:=aa (show Ap (BS I) (am A 128 c) by rw[<-hl];exact ha);rw[es,hl];rw[hb] at HT|-;have Hk:=Nv hl fg k1 k2 k3 hn.2;rw[Xt];generalize (s.t.take 2 s.next).2.1=er at*;generalize (s.t.take 2 s.next).2.2.1=t2 at*;generalize (s.t.take 2 s.next).2.2.2=n2 at*;generalize s.room=rm at*;have Hb:Af (b<4096):=by show b<4096;omega
    clear h hc hd ha hn e8 em es hr hl hb fg k1 k2 k3;go_in;go_upto_region 9 with(first
     |(go_at_call 33;refine PP HM.o ?_)
     |(go_at_call 6;refine PP HR.o ?_)
     |(go_at_call 124;refine HT.o.mono ?_;rintro e W3 ⟨rfl,ht3,Wn,Nn⟩;obtain⟨T3,P3,C3⟩:=qC ht3 Wn Nn;clear ht3 Wn Nn))
    have TL:∀x,(x=I.pb\/TS I.tb I.cb I.mb x)->BS I x:=λx hx=>IV x hx;have jW:¬(I.b=I.pb\/TS I.tb I.cb I.mb I.b):=by
     obtain⟨n1,n2,n3,n4,n5,n6,n7⟩:=H.o.uJ;rintro(e|e|e|e)
     .exact n6 e
     .exact n3 e
     .exact n4 e
     .exact n5 e
    have hf3:¬(I.fb=I.pb\/TS I.tb I.cb I.mb I.fb):=by
     obtain⟨n1,n2,n3,n4,n5,n6,n7⟩:=H.o.J5;rintro(e|e|e|e)
     .exact n6 e
     .exact n3 e
     .exact n4 e
     .exact n5 e
    have c3:=Hc.o.aL C3.o TL jW hf3;have C3b:=aa c3;have x5:=c3.x5;have xC:Bs W3.drew W3.drew.heap.size (am A 128 c) data:=⟨(Hd.p1.aL C3.o go (Ha.o.mono TL)).more C3.o.size,Hd.q1⟩;have HC:=aa (pQ W3.drew W3.drew.heap.size _ data xC go (by rw[Hk.p1];decide));have cz:Af (∀x,BS I x->x<W3):=λx hx=>Qn (H.o.lt x hx) C3.o.size;have HF:Af (∀W,ci W3 W->∀g,W3.heap.size<=g->∀c',Bs W W (sw (some (g,c'))) data->∃w',(Instr.mapUpdate 56 (.map (some I.fb)) (ac b) (el g 0 128 c')).run prog W= .ok () w'/\cR w' I {s with t:=t2,next:=n2,fresh:=s.fresh.set b (some data)}/\aG (BS I) w w'):=by
     intro W hW g hg c' iV;have rf:=C3b.o.kz.1;have eo:=H.o.ok.fr;have fg:b<s.fresh.length:=eo▸Hk.p2;have MI:=C3b.o.aL (S:=λ_=>False) (aG.aZ hW) (λ_ e=>e.elim) id id;obtain⟨w',hr,hm,uc⟩:=sS MI.jg (by rw[rf,eo];exact Hk.q5) (b:=b) (rf▸fg) g c';have MH:=aG.dH uc (λx _ e=>(Qr e).symm);have Bb:∀x,x=I.fb->BS I x:=λx e=>zbd;have hgS:¬BS I g:=λe=>XV.2 hg (cz.o g e);have tD :=df.put (MI.kz.aL MH Bb) fg (g:=g) (c:=c') (data:=data) ⟨(iV.1.aL MH go (jD (λe=>hgS (Bb _ e)))).more MH.size,iV.2⟩ hgS Hk.p1;refine⟨w',hr,?_,?_⟩
     .refine cR.Pf H.o Hc.o (S:=λx=>x=I.pb\/TS I.tb I.cb I.mb x) (λx hx=>hx) (C3.o.trans (aG.aZ hW)) uc (T3.o.on hW) (P3.o.on hW) hm tD ?_;have ok:=H.o.ok;refine⟨by rw[Hk.p3];exact ok.bl,by rw[Zy,Hk.p3];exact ok.fr,by rw[Hk.p3];exact ok.pg,ok.dg,by rw[Hk.p3];exact ok.rg,Hk.p4,by rw[Hk.p3];exact Hk.p5,ok.sup,ok.kep,ok.slot,λdt Nl=> ?_⟩;obtain h1|h1:=Zz Nl
      .exact ok.fd dt h1
      .cases h1;exact⟨Hk.p1,iV.2⟩
     .exact zfh
    clear c3 xC TL jW hf3;go_region_law (first
     |(go_simp;(go_at_call 125);(with_reducible refine HC.o.mono ?_);rintro e W4 ⟨v4,rfl,o4,b4⟩;obtain⟨g4,c4,rfl,og,anc⟩:=Ph o4 Hk.p1;have B4:Af (ci W3 W4):=⟨b4.os,b4.tape,b4.output,b4.size,b4.block⟩;have y5:jp W4 I.b 5 (.map (some I.fb)):=(B4.o.cell (p:=an I.b 5) (cz.o _ (.inl rfl))).trans x5;obtain⟨W5,iq,SV,hC5⟩:=HF.o W4 B4.o g4 og c4 ⟨zbe,Hd.q1⟩;have R5:=aa SV;have K5:=aa hC5;clear SV hC5 o4 b4))
    all_goals
     go_wp2;go_ret2;exact⟨rfl,R5.o,K5.o⟩
  .have es:s.put data=(0,2,s):=(by unfold aX.put;rw[Xd e8,Xo hl]);rw[es];have H:=aa h;have rf:=Xc Mx;clear h hd ha hn e8 em es hl;go_in;go_wp2_with(go_at_call 33;refine PP HM.o ?_);go_ret2;exact zed
variable{s:aX}{ops:LC}{w' :Wo}{Q:Mp}{a:Act}{rest:List Oper}{dst:Option Tmp}{om ok:Operand}{ty mt kt:Fy}{pos:String}{after:Array Edge}{m k:Va}
section
def wl_del(iq:(Builtin.delete_ #[mt,kt] ty #[m,k]).run prog w= .ok (.tuple #[]) w')(hm:a.eval om=m)(hk:a.eval ok=k)(hK:wpList prog ops Q rest (a.put dst (.tuple #[])) w'):
  wpList prog ops Q (⟨dst,.call {callee:= .builtin .delete,args:= #[om,ok],argTypes:= #[mt,kt]},ty,pos,after,none⟩::rest) a w:=by
 refine Qbi rfl λK' hK' => ?_;unfold Oper.wp;simp[execOp,resolve,invoke,builtin,hm,hk,iq,Result.andThen];exact hK' _ _ hK
end
def cR.abP{w:Wo}(h:cR w I s):∃pv dv,jp w I.b 3 pv/\jp w I.b 4 dv/\Ns w w .i64 pv s.ag/\Ns w w .i64 dv s.au/\s.ag.length<=100/\s.au.length<=100:=by obtain⟨pv,dv,ps,c⟩:=h.cells;have h1:=h.ok.pg;have h2:=h.ok.dg;have hn:=h.n0;unfold aR at h1 h2;rw[Xd Mx] at h1 h2;exact⟨pv,dv,c.own.cell rfl,c.own.cell rfl,c.ag,c.au,Mx,Mx⟩
def cR.Oz{w w1:Wo}(h:cR w I s)(hc:aG (TS I.tb I.cb I.mb) w w1){t:aE}(ht:bf w1 I.tb I.cb I.mb t)(hl:t.len=s.t.len):cR w1 I {s with t:=t}:=by
 obtain⟨hb,hd⟩:=h.Fp (S:=TS I.tb I.cb I.mb) (λx hx=> .inr hx) hc;have ok:=h.ok;obtain⟨pv,dv,ps,c⟩:=hb;refine⟨⟨pv,dv,ps,c.own,c.ag,c.ed,c.au,c.fT,c.jg,c.kz⟩,hd,ht,h.pick.aL hc ?_,h.mf,⟨by rw[hl];exact ok.bl,by rw[hl];exact ok.fr,by rw[hl];exact ok.pg,ok.dg,by rw[hl];exact ok.rg,ok.n2,by rw[hl];exact ok.nl,ok.sup,ok.kep,ok.slot,ok.fd⟩⟩;rintro(e|e|e)
 .exact Xm (aq.ne h.fh.own h.pick Fd) e
 .exact Xm (aq.ne h.fh.counts h.pick Fd) e
 .exact aq.bS h.pick h.fh.kept e
def Du{body:Fr}(hb:∀x∈body,aI x):∀x∈mq body,0<=x/\x<=65535:=by
 intro x hx;obtain⟨i,-,rfl⟩:=QU.1 hx;unfold cK;have h:=lR ((body.drop (1+2*i)).take 2) (λy hy=>hb y (Q6 (Za hy)));have hl:((body.drop (1+2*i)).take 2).length<=2:=BY;have:(256:Int)^((body.drop (1+2*i)).take 2).length<=256^2:=by
  generalize ((body.drop (1+2*i)).take 2).length=m at hl
  match m,hl with
  |0,_=>decide
  |1,_=>decide
  |2,_=>decide
 have e:(256:Int)^2=65536:=Fd;omega
def vS{k:Int}{p l:Fr}(h:pB k p=some l)(hb:∀x∈p,aI x):(∀x∈l,0<=x/\x<=65535)/\l.length<=61/\Pz k p:=by
 unfold pB at h;cases ho:dy p with
 |none=>rw[ho] at h;cases h
 |some q=>
  obtain⟨k',body⟩:=q;rw[ho] at h;dsimp only at h;split at h
  .rename_i hc
   cases h;refine⟨λx hx=>Du (jO ho hb).2.2 x (Za hx),?_,λYP ho' _=> ?_⟩
   .rw[Qu];unfold mq;simp;omega
   .rw[ho] at ho';cases ho';exact hc.2.2.2
  .cases h
def KK(w:Wo)(d pl:Nat)(bl:List (List Int))(h:cF w d pl bl)(kind:Int)(hk:kind=4\/kind=5)(i:Nat)(hi:i<bl.length)(l:Fr)(hl:pB kind bl[i]=some l):
  Calls prog 119 #[d,io kind,ac i,ac l.length] w λe w' =>∃v,e= .returned (.tuple #[v,ac 0])/\aB w' w 3 .i64 v l/\ci w w' :=by
 have HR:=aa (oA w d pl bl h i hi);have fg:bl[i].length=128/\∀x∈bl[i],aI x:=⟨h.size _ (QI _),h.byte _ (QI _)⟩;have⟨p,hp⟩:=eX (bl[i]);rw[<-hp] at fg hl HR;obtain⟨hr,ane,Pp⟩:=vS hl fg.2;have HDe:Af (∀(W:Wo) (v:Va),Bs W W v p->Calls prog 65 #[io kind,v] W λe w' =>∃v',e= .returned (.tuple #[v',ac 0])/\aB w' W 30 .u16 v' l/\ci W w'):=λW v hv=>(Js W kind hk v p hv Pp).mono λe w' ⟨hb,h1⟩=>(by
  rcases h1 with⟨h2,-⟩|⟨l',v',h2,h3,h4⟩
  .rw[hl] at h2;cases h2
  .rw[hl] at h2;cases h2;exact⟨v',h3,h4,hb⟩)
 have Hp:=aa fg;have Hr:=aa hr;have⟨n,hn⟩:=eX l.length;have Hn:=dK hn (by omega:n<=61);have n1:(n:Int)<=61:=Mx
 rw[<-hn];clear h hi hp fg hl hr ane Pp hn hk;go_in;go_upto_region 5 with(first
  |(go_at_call 49;refine HR.o.mono ?_;rintro e W2 ⟨g,rfl,l2,o2,b2⟩;have B2:=aa b2;have HD2:=aa (HDe.o W2 _ (by have:=o2.bs (o:=0) (n:=128) (c:=128) (by rw[Hp.p1];exact go) go AN Hp.q1;rwa[Zl,Qj (by rw[Hp.p1];exact go)] at this));clear o2 b2 l2)
  |(go_at_call 65;refine HD2.o.mono ?_;rintro e W3 ⟨uv,rfl,o3,b3⟩;have O3:=aa o3;have B3:=aa (Pd B2.o b3);clear b3 o3))
 have pT:=O3.o.ns;obtain⟨Au,cu,hv,-,-⟩:=pT.form;rw[<-Hn.p1] at hv;subst hv;have MT:=aa pT;clear pT HR HDe HD2;go_wp2_with fail;go_loopw [41,13] (λi v wr=>∃k:Nat,i= ac k/\Af (k<=n/\aB wr W3 3 .i64 v (l.take k)/\ci W3 wr)) (λi _ _=>n - (intOf i).toNat)
 .exact zfl
 .obtain⟨k,rfl,HR⟩:=hrel;obtain⟨A0,n0,c0,Ew⟩:=HR.p2.bu;subst Ew;by_cases aJ:k<n
  .have bQ:k<l.length:=(by have:=Hn.o;omega);obtain⟨b,o,c',hv,-,-,hb,aH⟩:=MT.o.cells Mx;obtain rfl:Au=some (an b o):=No;have⟨x,hx⟩:=eX (l.getD k 0);have pf:l[k]? =some x:=zag;have wA:=Hr.o x (Qi pf);have y0:jp wr b (o+k) (pK x):=(HR.q2.cell (p:=an b (o+k)) hb).trans (by rw[hx];exact aH k bQ);have JF:IntKind.i64.wrap x=x:=ww;have fp:wrap64 ((k:Int)+1)=(k:Int)+1:=At;have hi:(k:Int)<n:=Mx;have ml:(0:Int)<=k:=Mx;have bj:=aa aJ;have eu:=aa fp;have Hx:=dK pf (by rw[Qu];have:=Hn.o;omega:(l.take k).length<=100000);obtain⟨tJ,IB,rk⟩:=qC (aB.on HR.p2 (aF wr (.cells #[ac x] 3))) (ar wr [ac x] 3) (Pd HR.q2 (aF wr (.cells #[ac x] 3)));clear hx pf wA bQ aJ HR aH hb hv;go_wp2_with(at_builtin;(with_reducible refine wl_app1 NKi (os:= .tmp 45) (ox:= .tmp 48) W3 _ _ tJ.o wr x IB.o ?_ ?_ ?_ ?_ ?_);(·exact Hx.q1);(·exact rk.o.size);(·rfl);(·rfl);intro v' w' ho hg;have JW:=aa ho;have px:=aa (Below.app rk.o tJ.o go rk.o.size hg);clear ho hg hi ml JF);go_roundw
   .exact zfN
   .exact wn
  .have hi:¬(k:Int)<n:=(by omega);have e1:l.take k=l:=Qj wl;have fF:=aa HR.q1;rw[e1] at fF;clear e1 HR aJ;go_wp2_with fail;go_ret2;exact⟨_,rfl,fF.p1.low B3.o.size,Pd B3.o fF.q1⟩
def Jp:∀(ls:List (List Int)),(∀l∈ls,l.length<=61)->ls.flatten.length<=61*ls.length
 |[],_=>Sv
 |l::r,h=>by have h1:=h l Sv;have h2:=Jp r λx hx=>h x zdx;rw[Qbf,Qo,QF];omega
def LN(ls:List (List Int))(k:Nat)(l:Fr)(h:ls[k]? =some l):(ls.take (k+1)).flatten=(ls.take k).flatten++l:=by rw[aA _ _ _ h,List.flatten_append];simp
def U7{k m n:Nat}(h:k<m)(hm:m<=100)(hn:n<=4096):wrap64 ((k:Int)+1)=(k:Int)+1/\wrap64 ((k:Int)*61)=(k:Int)*61/\wrap64 ((n:Int) - (k:Int)*61)=(n:Int) - (k:Int)*61/\(k:Int)<m:=vW
structure IQ(bl:List (List Int))(kind:Int)(n:Nat)(at_:Fr)(ls:List (List Int)):Prop where
 len:ls.length=at_.length
 le:∀l∈ls,l.length<=61
 rng:∀k (_:k<at_.length),∃i:Nat,at_[k]? =some (i:Int)/\2<=i/\∃hi:i<bl.length,∃l,ls[k]? =some l/\pB kind bl[i]=some l/\(l.length:Int)=min ((n:Int) - k*61) 61
def sN(w:Wo)(d pl:Nat)(bl:List (List Int))(h:cF w d pl bl)(kind:Int)(hk:kind=4\/kind=5)(n:Nat)(hn:n<=4096)(v:Va)(at_:Fr)(hv:Ns w w .i64 v at_)(EC:at_.length<=100)(ls:List (List Int))(hls:IQ bl kind n at_ ls):
  Calls prog 51 #[d,io kind,v,ac n] w λe w' =>∃v,e= .returned (.tuple #[v,ac 0])/\aB w' w 3 .i64 v ls.flatten/\ci w w' :=by
 obtain⟨A,c,rfl,-,-⟩:=hv.form;have⟨m,hm⟩:=eX at_.length;have HV:=aa hv;rw[<-hm] at HV|-;have Hn:=iJ hm (by omega:m<=100) hn;have m1:(m:Int)<=100:=Mx;have n1:(n:Int)<=4096:=Mx;have n0:(0:Int)<=n:=Mx;have Ta:=aa h.n1;have HLe:=aa (λ(W:Wo) (hW:ci w W)=>zN W d pl bl.length _ (h.own.on hW));clear hv EC hm hn;change Af _ at h hls;go_in;go_wp2;go_loopw [17,10] (λi v wr=>∃k:Nat,i= ac k/\Af (k<=m/\aB wr w 3 .i64 v (ls.take k).flatten/\ci w wr)) (λi _ _=>m - (intOf i).toNat)
 .exact zfl
 .obtain⟨k,rfl,HR⟩:=hrel;obtain⟨A0,n0',c0,Ew⟩:=HR.p2.bu;subst Ew;by_cases aJ:k<m
  .have bQ:k<at_.length:=(by have:=Hn.o;omega);obtain⟨b,o,c',hv,-,-,hb,aH⟩:=HV.o.cells Mx;obtain rfl:A=some (an b o):=No;obtain⟨i,hi,h2,ub,l,hl,hd,hll⟩:=hls.o.rng k bQ;have y0:jp wr b (o+k) (ac i):=(HR.q2.cell (p:=an b (o+k)) hb).trans (by rw[aH k bQ,Qe,hi];rfl);obtain⟨fp,DZ,hw4,i1⟩:=U7 aJ Hn.p2 Hn.q2;have i0:=Xh k;have i2:=Int.not_lt.2 (Int.ofNat_le.2 h2);have i3:=Int.not_le.2 (Xi.2 ub);obtain⟨bj,eu,HD,HL1⟩:=rx aJ fp (h.o.on HR.q2) (HLe.o wr HR.q2);have Td:=aa (KK wr d pl bl HD.o kind hk i ub l hd);rw[hll] at Td;have HB:=aa HR.q2;have HO:=aa HR.p2;have Hfl:Af ((ls.take k).flatten.length+l.length<=1000000):=by have h1:=Jp (ls.take k) (λx hx=>hls.o.le x (Za hx));have h2:=hls.o.le l (Qi hl);rw[Qu] at h1;have h3:min k ls.length<=100:=Qh (Qdj _ _) (Qh HR.p1 Hn.p2);exact Qh (Qcf h1 h2) (Qh (Nat.add_le_add_right (Qex 61 h3) 61) Fd)
   have tH:=aa (LN ls k l hl);clear hv aH hi h2 ub hl hd hll bQ aJ HR hb;go_upto_region 8 with(first
    |(go_at_call 46;refine HL1.o.mono ?_;rintro e W2 ⟨rfl,rfl⟩)
    |(go_at_call 119;refine Td.o.mono ?_;rintro e W3 ⟨lv,rfl,o3,b3⟩;have O3:=aa o3;have B3:=aa b3;clear o3 b3))
   have pT:=O3.o.ns;obtain⟨Al,cl,rfl,-,-⟩:=pT.form;obtain⟨MT,NM,pw⟩:=qC pT (HO.o.on B3.o) (Pd HB.o B3.o);clear pT y0 i2 i3 DZ hw4;go_wp2_with(at_builtin;(with_reducible refine wl_appNs NKi (os:= .tmp 45) (ox:= .tmp 46) w _ _ NM.o _ _ MT.o ?_ ?_ ?_ ?_ ?_);(·exact Hfl.o);(·exact pw.o.size);(·rfl);(·rfl);intro v' w' ho hg;have JW:=aa ho;have px:=aa (Below.app pw.o NM.o go pw.o.size hg);clear ho hg);go_roundw
   .refine⟨k+1,xh,bj.o,?_,px.o⟩;rw[tH.o];exact JW.o
   .exact wn
  .have hi:¬(k:Int)<m:=(by omega);have e1:ls.take k=ls:=Qj (by have:=Hn.o;have:=hls.o.len;omega);have fF:=aa HR.q1;rw[e1] at fF;clear e1 HR aJ;go_wp2_with fail;go_ret2;exact⟨_,rfl,fF.p1,fF.q1⟩
variable{P:ST}{e:Fy}{k:IntKind}
section
def Cn(w:Wo)(he:(isAgg e).run P w= .ok false w)(xs:Fr)(i:Nat)(hi:i<xs.length):(part e (xs.map (Value.int k)).toArray (i*1)).run P w= .ok (.int k xs[i]) w:=by unfold part;simp only[Qaz,he,XH,Xn,Qgf,Qci];rw[show((xs.map (Value.int k)).toArray)[i]? =some (.int k xs[i]) by simp[hi]];rfl
def qW(w:Wo)(d:Nat)(he:(isAgg e).run P w= .ok false w)(hu:P.underlying e=some (.int k))(xs ys:Fr)(hl:xs.length=ys.length):∀is:List Nat,(∀i∈is,i<xs.length)->
  (Op.eqItems (d+1) e 1 (xs.map (Value.int k)).toArray (ys.map (Value.int k)).toArray is).run P w= .ok (is.all λi=>xs.getD i 0==ys.getD i 0) w
 |[],_=>by simp[Op.eqItems]
 |i::r,h=>by
  have hi:=h i Sv;have ih:=qW w d he hu xs ys hl r (λj hj=>h j (by simp[hj]));simp only[Op.eqItems,Qaz,Cn w he xs i hi,Cn w he ys i Mx,Qfe w d e k k _ _ hu,XH];rw[Qce,Qe,Qe,Qf hi,Qf (by omega:i<ys.length)];simp only[Qdu]
  cases hb:(xs[i]==ys[i])
  .simp
  .simpa using ih
def Ax(xs ys:Fr)(hl:xs.length=ys.length):((range xs.length).all λi=>xs.getD i 0==ys.getD i 0)=decide (xs=ys):=by
 rw[XD,XT,XS];constructor
 .intro h;apply Qaf hl;intro i h1 h2;have:=h i (Zm.2 h1);rw[Qe,Qe,Qf h1,Qf h2] at this;exact zdO
 .rintro rfl i _;simp
def zP(w:Wo)(d:Nat){t:Fy}{n:Nat}(hu:P.underlying t=some (.array n e))(hc:P.cellsOf e=1)(he:(isAgg e).run P w= .ok false w)(hk:P.underlying e=some (.int k))(xs ys:Fr)(hx:xs.length=n)(hy:ys.length=n):
  (Op.equalIn (d+2) t (.agg (xs.map (Value.int k)).toArray) (.agg (ys.map (Value.int k)).toArray)).run P w= .ok (decide (xs=ys)) w:=by
 obtain⟨i,hi⟩:=info_of_underlying hk;rw[show d+2=(d+1)+1 from rfl,run_equalIn_array w (d+1) _ _ hu hi,hc,qW w d he hk xs ys (hx.trans hy.symm) _ (λj hj=>hx▸(Zm.1 hj)),<-hx,Ax xs ys (hx.trans hy.symm)]
end
def tO{s:aN}(h:bM s):(aP s).toArray.extract 2 10=(s.roots.map (Value.int .u32)).toArray/\(aP s).toArray.extract 10 18=(s.marks.map (Value.int .u64)).toArray/\(aP s).toArray[0]? =some (ip s.gen)/\(aP s).toArray[1]? =some (gc s.blocks):=by
 have h8:=h.r8;have m8:=h.m8;refine⟨?_,?_,rfl,rfl⟩
 .apply Qev;unfold aP;simp[h8]
 .apply Qev;unfold aP;simp[h8];exact Qj (by simp[m8])
def ahy(w:Wo)(x y:aN)(hx:bM x)(hy:bM y):(Op.equalIn 10000 60 (.agg (aP x).toArray) (.agg (aP y).toArray)).run prog w= .ok (decide (x=y)) w:=by
 obtain⟨x1,x2,x3,x4⟩:=tO hx;obtain⟨y1,y2,y3,y4⟩:=tO hy;have hr:∀d,(Op.equalIn (d+2) 57 (.agg (x.roots.map (Value.int .u32)).toArray) (.agg (y.roots.map (Value.int .u32)).toArray)).run prog w= .ok (decide (x.roots=y.roots)) w:=λd=>zP w d (P:=prog) (e:=27) (n:=8) underlying57 KJ KJ underlying27 x.roots y.roots hx.r8 hy.r8;have hm:∀d,(Op.equalIn (d+2) 58 (.agg (x.marks.map (Value.int .u64)).toArray) (.agg (y.marks.map (Value.int .u64)).toArray)).run prog w= .ok (decide (x.marks=y.marks)) w:=λd=>zP w d (P:=prog) (e:=26) (n:=8) underlying58 KJ KJ underlying26 x.marks y.marks hx.m8 hy.m8;have f0:∀d,(Op.equalIn (d+1) 26 (ip x.gen) (ip y.gen)).run prog w= .ok (x.gen==y.gen) w:=λd=>Qfe w d _ .u64 .u64 _ _ underlying26;have f1:∀d,(Op.equalIn (d+1) 27 (gc x.blocks) (gc y.blocks)).run prog w= .ok (x.blocks==y.blocks) w:=λd=>Qfe w d _ .u32 .u32 _ _ underlying27;have p0:∀s:aN,(part 26 (aP s).toArray 0).run prog w= .ok (ip s.gen) w:=λs=>by have h2:(isAgg 26).run prog w= .ok false w:=KJ;exact zeL
 have p1:∀s:aN,(part 27 (aP s).toArray 1).run prog w= .ok (gc s.blocks) w:=λs=>by have h2:(isAgg 27).run prog w= .ok false w:=KJ;exact zeL
 have p2:∀s:aN,bM s->(part 57 (aP s).toArray 2).run prog w= .ok (.agg (s.roots.map (Value.int .u32)).toArray) w:=λs hs=>by have h2:(isAgg 57).run prog w= .ok true w:=KJ;have h3:(sizeOf 57).run prog w= .ok 8 w:=KJ;unfold part;simp only[Qaz,h2,h3,XH,Qdx,Qcc];rw[<-(tO hs).1]
 have p3:∀s:aN,bM s->(part 58 (aP s).toArray 10).run prog w= .ok (.agg (s.marks.map (Value.int .u64)).toArray) w:=λs hs=>by have h2:(isAgg 58).run prog w= .ok true w:=KJ;have h3:(sizeOf 58).run prog w= .ok 8 w:=KJ;unfold part;simp only[Qaz,h2,h3,XH,Qdx,Qcc];rw[<-(tO hs).2.1]
 have hu:prog.underlying 60=some (.struct (prog.fieldsOf 60)):=KJ;have hp:prog.stoodInHeld 60=false:=KJ
 rw[run_equalIn_struct w 9999 _ _ _ hu hp];have e2:∀xs ys,Op.eqFields 9999 xs ys (prog.fieldsOf 60).toList=(do
   let a <-part 26 xs 0
   let b <-part 26 ys 0
   let r <-Op.equalIn 9999 26 a b
   if(!r)=true then pure false else do
   let a <-part 27 xs 1
   let b <-part 27 ys 1
   let r <-Op.equalIn 9999 27 a b
   if(!r)=true then pure false else do
   let a <-part 57 xs 2
   let b <-part 57 ys 2
   let r <-Op.equalIn 9999 57 a b
   if(!r)=true then pure false else do
   let a <-part 58 xs 10
   let b <-part 58 ys 10
   let r <-Op.equalIn 9999 58 a b
   if(!r)=true then pure false else pure true):=λxs ys=>KJ
 rw[e2];simp only[Qaz,p0,p1,p2 x hx,p2 y hy,p3 x hx,p3 y hy,XH,f0 9998,f1 9998,hr 9997,hm 9997,Sem.run_ite,Qcc];have key:decide (x=y)=((x.gen==y.gen)&&((x.blocks==y.blocks)&&(decide (x.roots=y.roots)&&decide (x.marks=y.marks)))):=by
  rw[XD];simp only[XS,XR,Qbq];constructor
  .rintro rfl;exact⟨rfl,rfl,rfl,rfl⟩
  .rintro⟨h1,h2,h3,h4⟩;cases x;cases y;simp only at h1 h2 h3 h4;rw[h1,h2,h3,h4]
 rw[key];cases(x.gen==y.gen)<;>cases(x.blocks==y.blocks)<;>cases decide (x.roots=y.roots)<;>cases decide (x.marks=y.marks)<;>simp
variable{counts p0 p1 ag:Fr}{W:Wo}{base:Nat}{v:Va}{bl:List (List Int)}
def Ys{l:Fr}(h:l.length=8):∃a0 a1 a2 a3 a4 a5 a6 a7,l=[a0,a1,a2,a3,a4,a5,a6,a7]:=by
 match l,h with
 |[a0,a1,a2,a3,a4,a5,a6,a7],_=>exact⟨a0,a1,a2,a3,a4,a5,a6,a7,rfl⟩
structure IW(bl:List (List Int))(x:aN)(ag au counts:Fr):Prop where
 pick:∀p0 p1,bl[0]? =some p0->bl[1]? =some p1->qu p0 p1=some x
 bx:x.blocks=bl.length
 dl:au.length=mN bl.length
 dr:au=x.roots.take (mN bl.length)
 root:qE x au=x
 pl:ag.length=kN bl.length
 cl:counts.length=bl.length
 cr:∀c∈counts,0<=c/\c<=65535
 rg:∀y∈ag++au,0<=y/\y<bl.length
 sh:ke (aE.of counts) ag au=true
 th1:∃ls,IQ bl 4 (kN bl.length) au ls/\ls.flatten=ag
 th2:∃ls,IQ bl 5 bl.length ag ls/\ls.flatten=counts
def EP(bl:List (List Int))(x:aN)(ag au counts:Fr):aX:=⟨bl,aE.of counts,2,ag,au,replicate bl.length none,x,x,(x.gen%2).toNat,false⟩
def abu(w:Wo)(d pl:Nat)(I:bF):Prop:=I.d=d/\I.pl=pl/\w<=I.b/\w<=I.tb/\w<=I.cb/\w<=I.mb/\w<=I.pb/\w<=I.fb
def Da{slot:Nat}{p:Fr}{gC:aN}(hb:∀y∈p,aI y)(h:bM gC):bM (nh slot p gC):=by
 unfold nh;cases hd:kA p with
 |none=>exact h
 |some s=>
  dsimp only;split
  .exact zQ hb hd
  .exact h
def Rf(h0:∀y∈p0,aI y)(h1:∀y∈p1,aI y)(h:qu p0 p1=some x):bM x:=by
 unfold qu at h;simp only at h;split at h
 .cases h
 .cases h;exact Da h1 (Da h0 Cb)
def KU{v0 v1:Va}(h0:Bs w w v0 p0)(h1:Bs w w v1 p1)(h:qu p0 p1=some x):Calls prog 50 #[v0,v1] w (iF (.tuple #[.agg (aP x).toArray,ac (x.gen%2),ac 0]) λw' =>ci w w') :=
 (KV w v0 v1 p0 p1 h0 h1).mono λe w' ⟨hb,h2⟩=>by
  rcases h2 with⟨h3,-⟩|⟨s,h3,-,h4⟩
  .rw[h] at h3;cases h3
  .rw[h] at h3;cases h3;exact⟨h4,hb⟩
structure ag6(w:Wo)(xb sb:Nat)(x:aN)(au:Fr)(wr:Wo):Prop where
 xc:aq wr xb 60 (aP x)
 sc:∃A n c,aq wr sb 55 [(),.slice A n c]/\aB wr w 3 .i64 (.slice A n c) au
 low:Below w w wr
def kj{K V:Type}[DecidableEq K]{M:MK K V}{m s n sz:Nat}{f:K->Option V}{e:Fy}{xs:Ox}(h:MG M w m f s)(ho:w.ownsRow base e sz v n xs):v.ownBlock≠some m:=by
 obtain⟨D,⟨es,clock,h0,_⟩,_⟩:=h;intro e1;rcases ho.2 with⟨rfl,_⟩|⟨g',cap,cur,rfl,_,h1,_⟩
 .cases e1
 .cases e1;rw[h0] at h1;cases h1
def aB.ag5{t:aE}{next:Nat}{xs:Fr}(h:aB W base 3 .i64 v xs)(hd:cF W I.d I.pl bl)(ht:bf W I.tb I.cb I.mb t)(hp:aq W I.pb 131 (iX I.tb 2 next))(hf:W<=I.fb)(hb:W<=I.b):Ap (BS I) v:=by
 intro b o n c _ e hS;subst e;have aJ:=(Xr h b rfl).2;obtain e|e|e|e|e|e|e|e:=hS<;>subst e
 .omega
 .exact aq.not_row hd.own Fd h rfl
 .exact aq.not_row hd.eP Fd h rfl
 .exact aq.not_row ht.own Fd h rfl
 .exact aq.not_row ht.counts Fd h rfl
 .exact kj ht.kept h rfl
 .exact aq.not_row hp Fd h rfl
 .omega
def abW(ho:IW bl x ag au counts)(hx:bM x)(h0:16<=bl.length)(h1:bl.length<=4096):Yj (EP bl x ag au counts):=by have hc:(EP bl x ag au counts).t.len=bl.length:=ho.cl;obtain⟨e1,e2⟩:=uK (n:=bl.length) Mx;refine⟨hc.symm,by rw[hc];exact QK,by rw[hc];show(ag.length:Int)=_;rw[ho.pl];exact e1,by show(au.length:Int)=aR ag.length;rw[ho.dl,ho.pl];exact e2,λy hy=>by rw[hc];exact ho.rg y hy,go,by rw[hc];show 2<=_;omega,hx,hx,by show(x.gen%2).toNat<=1;omega,λdata hd=> ?_⟩;cases QJ hd
def Gd(n:Nat):jf (replicate n none)=replicate n none:=by rw[jf,Qdg];rfl
def Rm{pv dv:Va}(hbm:I.b=W.heap.size+1)(hfm:I.fb=W.heap.size)(ho:IW bl x ag au counts)(hx:bM x)
  (hd:cF W I.d I.pl bl) (ht:bf W I.tb I.cb I.mb (aE.of counts)) (hp:aq W I.pb 131 (iX I.tb 2 2)) (h1:aB W base 3 .i64 pv ag) (h2:aB W base 3 .i64 dv au)
  (cs:Zvv) (iH:cs=(ni I pv dv x x (x.gen%2).toNat false).toArray):cR ((W.alloc (.map #[] 0)).alloc (.cells cs 62)) I (EP bl x ag au counts):=by
 subst iH;have hb:ci W (qr (W.alloc (.map #[] 0)) (ni I pv dv x x (x.gen%2).toNat false).toArray 62):=(aF W _).alloc Sv _;have a1:=h1.ag5 hd ht hp Mx Mx;have a2:=h2.ag5 hd ht hp Mx Mx;refine⟨⟨pv,dv,replicate bl.length none,?_,(aB.on h1 hb).ns,a1,(aB.on h2 hb).ns,a2,?_,?_⟩,hd.on hb,ht.on hb,hp.on hb,?_,abW ho hx hd.n0 hd.n1⟩
 .rw[hbm];exact cL W _ _
 .rw[hfm,Gd,qN,<-ko];exact MG.aQ (MG.made (M:=Ud) W) (Qej _ _ _ Sv)
 .refine⟨by simp[EP],λi=> .inl ⟨?_,?_⟩⟩
  .rw[Qe,Zr];split<;>rfl
  .show(replicate bl.length none).getD i none=none;rw[Qe,Zr];split<;>rfl
 .have:=ht.kept.lt;omega
def Ld(w:Wo)(d pl:Nat)(bl:List (List Int))(h:cF w d pl bl)(x:aN)(ag au counts:Fr)(ho:IW bl x ag au counts):
  Calls prog 15 #[d] w λe w' =>∃I,e= .returned (.tuple #[I.b,ac 0])/\cR w' I (EP bl x ag au counts)/\abu w d pl I/\ci w w' :=by
 have⟨n,hn⟩:=eX bl.length;have h0:16<=n:=by rw[hn];exact h.n0
 have h1:n<=4096:=by rw[hn];exact h.n1
 have HL:=aa (zN w d pl n _ (by rw[hn];exact h.own));have tI:=oA w d pl bl h 0 Mx;have pX:=aa (λ(W:Wo) (hW:ci w W)=>oA W d pl bl (h.on hW) 1 Mx);rw[show((0:Nat):Int)=(0:Int) from rfl] at tI;rw[show((1:Nat):Int)=(1:Int) from rfl] at pX;have tI:=aa tI;have p0:Af (bl[0].length=128/\∀y∈bl[0],aI y):=⟨h.size _ (QI _),h.byte _ (QI _)⟩;have p1:Af (bl[1].length=128/\∀y∈bl[1],aI y):=⟨h.size _ (QI _),h.byte _ (QI _)⟩;have HPk:=aa (ho.pick bl[0] bl[1] (Qf _) (Qf _));generalize bl[0]=P0 at*;generalize bl[1]=P1 at*;have Ho:=aa ho;have H:=aa h;have Hn:Af (n=bl.length/\16<=n/\n<=4096):=⟨hn,h0,h1⟩;have n1:(n:Int)<=4096:=Mx
 have n0:((n:Int)==0)=false:=Xc Mx;clear h h0 h1 hn ho;go_in;go_upto_region 8 with(first
  |(go_at_call 46;refine HL.o.mono ?_;rintro e W2 ⟨rfl,rfl⟩)
  |((go_at_call 49;with_reducible refine tI.o.mono ?_);rintro e W2 ⟨g0,rfl,l2,o2,b2⟩;have O2:=aa o2;have B2:=aa b2;have L2:=aa l2;clear o2 b2 l2)
  |((go_at_call 49;with_reducible refine(pX.o _ B2.o).mono ?_);rintro e W3 ⟨g1,rfl,l3,o3,b3⟩;have O3:=aa o3;have B3:=aa b3;have L3:=aa l3;clear o3 b3 l3))
 have bs0:=(O2.o.aQ (w' :=W3) (B3.o.block g0 O2.o.lt)).whole p0.p1 p0.q1;have bs1:=O3.o.whole p1.p1 p1.q1;have HP:=KU bs0 bs1 HPk.o;have py:=aa (Pd B2.o B3.o);have Hx:=aa (Rf p0.q1 p1.q1 HPk.o);have⟨C,hC⟩:=eX (aP x);have HC:=aa hC;have je:Af (C.length=18):=by show _=_;rw[HC.o];exact bK Hx.o
 have su:Af (C.toArray.all (·.oneCell')=true):=WP;have wO:Af ((prog.info? 60).map (·.size)=some C.toArray.size):=zaq
 rw[<-hC] at HP;have HP:=aa HP;have⟨sl,kr⟩:=eX (x.gen%2);have Hsl:=aa kr;rw[<-kr] at HP;clear bs0 bs1 hC kr HL tI pX HPk p0 p1 O2 O3 L2 L3;go_upto_region 9 with(first
  |(go_at_call 50;refine HP.o.mono ?_;rintro e W4 ⟨rfl,b4⟩;have B4:=aa b4;clear b4)
  |((refine wpList_store_mid rfl 60 _ _ rfl W4 0 C.toArray ?_ ?_ ?_ wO.o su.o ?_);(·rfl);(·rfl);(·exact uQ W4 C je.o);go_frame))
 change Code.wp _ _ _ _ ((W4.alloc (.cells (aP aV).toArray 60)).setCells W4 0 C);obtain⟨b5,x5⟩:=nI W4 C 60 (aP aV) je.o;have⟨xb,eD⟩:=eX W4.heap.size;have hxw:w.heap.size<=xb:=by rw[eD];exact Qh py.o.size B4.o.size
 rw[<-eD] at x5 b5|-;have⟨W5,j6⟩:=eX ((W4.alloc (.cells (aP aV).toArray 60)).setCells xb 0 C);rw[<-j6] at x5 b5|-;have Us:=aa (py.o.trans (B4.o.trans (b5.mono (Qh B4.o.size Mx)) |>.mono py.o.size));have X5:=aa x5;have Hxw:=aa hxw;have x1:W5.cell? (an xb 1)=some (gc n):=x5.cell (by rw[HC.o,Hn.p1,<-Ho.o.bx];rfl);have Tt:IntKind.i64.wrap (n:Int)=n:=ww;have⟨k,hk⟩:=eX (kN n);have⟨m,hm⟩:=eX (mN n);obtain⟨e1,e2⟩:=uK (n:=n) (by have:=Hn.p2;omega);obtain⟨q1,q2,q3,q4,q5,q6⟩:=BE Hn.p2 Hn.q2;rw[<-hk,<-hm] at e2;rw[<-hk] at e1 q2;rw[<-hm] at q4;have tp:=aa (λW=>dY W n Mx Mx);have AJ:=aa (λW=>dY W k Mx Mx);rw[<-e1] at tp;rw[<-e2] at AJ;have xE:=kH hk hm q2 q4;have m2:(m:Int)<=2:=Mx;clear j6 eD hxw b5 x5 hk hm e1 e2 q1 q2 q3 q4 q5 q6 HP B4;go_upto_region 13 with(go_at_call 30;refine(tp.o _).mono ?_;rintro e W6 ⟨rfl,rfl⟩);have s6:aq (W5.alloc (.cells #[(),()] 55)) W5 55 [(),()]:=ar W5 [_,_] _;have b6:=aF W5 (.cells #[(),()] 55);have⟨W6,jc⟩:=eX (W5.alloc (.cells #[(),()] 55));obtain⟨sb,jq⟩:∃y,y=W5.heap.size:=⟨_,rfl⟩;have hsw:w.heap.size<=sb:=by rw[jq];exact Us.o.size
 rw[<-jc] at s6 b6|-;rw[<-jq] at s6|-;have rj:Af (ag6 w xb sb x (au.take 0) W6):=⟨by rw[<-HC.o];exact X5.o.on b6,⟨none,0,0,s6,cQ _ _ _ _⟩,Pd Us.o b6⟩;have Hsw:=aa hsw;clear jc jq hsw s6 b6 x1 tp;go_wp2_with(go_at_call 30;refine(AJ.o _).mono ?_;rintro e W7 ⟨rfl,rfl⟩);go_loopw [62] (λi wr=>∃q:Nat,i= ac q/\Af (q<=m/\ag6 w xb sb x (au.take q) wr)) (λi _=>m - (intOf i).toNat)
 .exact zfB
 .obtain⟨q,rfl,HR⟩:=hrel;obtain⟨A,nd,cd,hs,bN⟩:=HR.q1.sc;by_cases aJ:q<m
  .have ZM:q<au.length:=(by rw[Ho.o.dl,<-Hn.p1];have:=xE.p2;omega);obtain⟨y,hy⟩:∃y,au[q]? =some y:=⟨_,Qf ZM⟩;have hyr:=Ho.o.rg y (QD _ (Qi hy));have OI:x.roots.getD q 0=y:=by
    have h1:=Ho.o.dr;rw[h1,Ze] at hy;split at hy
    .rw[Qe,hy];rfl
    .cases hy
   have q8:q<8:=(by have:=xE.q3;omega);have r0:wr.drew.cell? (an xb (2+q))=some (gc y):=HR.q1.xc.cell (by rw[nC Hx.o q8,OI]);have z1:wr.drew.cell? (an sb 1)=some (am A nd cd):=hs.cell rfl;have hwy:IntKind.i64.wrap y=y:=(by unfold IntKind.wrap;simp[IntKind.signed,IntKind.bits];have:=Hn.o;omega);have fp:wrap64 ((q:Int)+1)=(q:Int)+1:=vW;have i0:(0:Int)<=q:=Mx;have i1:(q:Int)<m:=Mx;have i8:(q:Int)<8:=Mx;have bA:=aF wr (.cells #[ac y] 3);have r1:((wr.alloc (.cells #[ac y] 3)).drew).cell? (an xb (2+q))=some (gc y):=(HR.q1.xc.on bA).cell (by rw[nC Hx.o q8,OI]);have z2:((wr.alloc (.cells #[ac y] 3)).drew).cell? (an sb 1)=some (am A nd cd):=(hs.on bA).cell rfl;have tJ:Af (((wr.alloc (.cells #[ac y] 3)).drew).ownsRow w 3 1 (am A nd cd) (au.take q).length ((au.take q).map (.int .i64))):=bN.on bA.drew;have HSA:Af (aq ((wr.alloc (.cells #[ac y] 3)).drew) sb 55 [(),am A nd cd]):=hs.on bA.drew;have IB:Af (aq ((wr.alloc (.cells #[ac y] 3)).drew) xb 60 (aP x)):=HR.q1.xc.on bA.drew;have rk:Af (ci w ((wr.alloc (.cells #[ac y] 3)).drew)):=(Pd HR.q1.low bA).drew;have HNA:Af (Sl ((wr.alloc (.cells #[ac y] 3)).drew) (wr.heap.size+1) 1 (el wr 0 1 1) 1 [ac y]):=Fg wr [ac y] _ 1 rfl;have bj:=aa aJ;have eu:=aa fp;have tH:=aa (aA au q y hy);have Hql:Af ((au.take q).length<=10):=(by show _<=_;rw[Qu];exact Qh (Qdj _ _) Mx);obtain⟨D,hD⟩:∃D,D=au.take q:=⟨_,rfl⟩;rw[<-hD] at tJ Hql tH;obtain⟨nD,hnD⟩:∃z,z=D.length:=⟨_,rfl⟩;rw[<-hnD] at tJ Hql;have HnD:=aa hnD;clear hs bN ZM hy hyr OI q8 bA aJ HR hD hnD;go_upto_region 16 with fail
   go_region_law (first
    |((with_reducible refine nX (os:= .tmp 66) (ox:= .tmp 72) w 53 3 (ac 0) 1 8 underlying53 iE ?_ ?_ (am A nd cd) nD (D.map (.int .i64)) tJ.o (el wr 0 1 1) 1 [ac y] HNA.o ?_ ?_ ?_ ?_ ?_ ?_ ?_);(·rfl);(·decide);(·exact dW .i64 [y]);(·have:=Hql.o;unfold maxLen;omega);(·have:=Hql.o;omega);(·exact rk.o.size);(·rfl);(·rfl);intro v4 w4 ua og;obtain⟨g4,c4,rfl⟩:=ownsRow_succ ua;have O4:=aa ua;have G4:=aa og;have S4:=aa (HSA.o.grown og (λe=>aq.not_row HSA.o Fd tJ.o e.symm));have X4:=aa (IB.o.grown og (λe=>aq.not_row IB.o Fd tJ.o e.symm));have y4:=S4.o.j1;have f4:=S4.o.free 1;clear ua og))
   all_goals
    go_wp2_with fail;go_roundw
    .refine⟨q+1,xh,bj.o,?_,⟨some (ol g4),nD+1,c4,S4.o.set 1 _,?_⟩,?_⟩
     .exact X4.o.az (p:=an sb 1) (λe=>absurd (X4.o.ne S4.o Fd) (λh=>h e)) _
     .rw[tH.o];refine aB.aT (T:=55) (nb:=sb) ?_ S4.o Fd 1 _;unfold aB;rw[Qo,QL,<-HnD.o];exact O4.o
     .exact(rk.o.grown G4.o rk.o.size (λj e=>(Xr tJ.o j e).1)).setCell (p:=an sb 1) Hsw.o _
    .exact wn
  .have i1:¬(q:Int)<m:=(by omega);have e1:au.take q=au:=Qj (by rw[Ho.o.dl,<-Hn.p1,<-xE.p2];omega);have HS:=aa HR.q1.low;have HX:=aa HR.q1.xc;rw[e1] at bN;have zt:=aa bN;have Hs:=aa hs;clear hs bN HR aJ e1;go_upto_region 18 with fail;have NS:Af (aq wr.drew xb 60 C):=(by show aq _ _ _ _;rw[HC.o];exact HX.o);have HSb:Af (aq wr.drew sb 55 [(),am A nd cd]):=Hs.o;have HNs:Ns wr.drew wr.drew.heap.size .i64 (am A nd cd) au:=aB.ns (aB.on zt.o (Xj _ wr).drew);have mn:Af (Calls prog 36 #[.agg C.toArray,am A nd cd] wr.drew (iF (.agg C.toArray) λw' =>Below wr.drew.heap.size wr.drew w')):=(by have h1:=vA wr.drew x Hx.o _ au HNs (λd hd=>by have:=Ho.o.rg d (QD _ hd);have:=Hn.o;omega) zbB;rw[Ho.o.root,<-HC.o] at h1;exact h1);have HL:=aa (λ(W:Wo) (j:aq W xb 60 C)=>ef (w:=W) (b:=xb) (cs:=C) je.o (λj' v hj=>j.cell hj));have bT:∀W,(binOp .neq 60 (.agg C.toArray) (.agg C.toArray)).run prog W= .ok false W:=λW=>(by have h1:=ahy W x x Hx.o Hx.o;rw[<-HC.o] at h1;rw[Qgp,h1];simp);have Wv:prog.eqGuardType prog.depth 60=false:=KJ;clear HNs;have hS:aq wr.drew xb 60 C/\aq wr.drew sb 55 [(),am A nd cd]:=⟨NS.o,HSb.o⟩;refine wp_region_held_drew (S:=λW=>aq W xb 60 C/\aq W sb 55 [(),am A nd cd]) KJ hS (λ_=> ?_);refine wpAnyH_take (i:=0) (v:= .agg C.toArray) rfl KJ KJ KJ (λ_ _ _ h=>h) (Or.inl ⟨zac,λW hW=>lq xb _ rfl (HL.o W hW.1)⟩) hS ?_;(try simp only[Act.put]);refine wpAnyH_take (i:=1) (v:= ro sb 1) rfl KJ KJ KJ (λ_ _ _ h=>h) (Or.inl ⟨zac,λW hW=>zM⟩) hS ?_;(try simp only[Act.put]);refine wpAnyH_take (i:=2) (v:= am A nd cd) rfl KJ KJ KJ (λ_ _ _ h=>h) (Or.inl ⟨zac,λW hW=>by have hx:=hW.2.j1;go_simp⟩) hS ?_;(try simp only[Act.put]);refine wpAnyH_take (i:=4) (v:= .agg C.toArray) rfl KJ KJ KJ (λ_ _ _ h=>h) (Or.inl ⟨zac,λW hW=>lq xb _ rfl (HL.o W hW.1)⟩) hS ?_;(try simp only[Act.put]);refine wpAnyH_ready (rs:=[3]) KJ Sv ?_;refine AllReadyH.cons rfl (λK hK=> ?_) AllReadyH.nil;go_simp;go_at_call 36;refine mn.o.mono ?_;rintro e W8 ⟨rfl,b8⟩;go_simp;have B8:Af (ci wr W8):=⟨b8.os,b8.tape,b8.output,b8.size,b8.block⟩;refine hK.out _ _ ⟨NS.o.on b8,HSb.o.on b8⟩ (λhS=> ?_);clear hK K b8;(try simp only[Act.put]);refine wpAnyH_take (i:=5) (v:= .bool false) rfl KJ KJ KJ (λ_ _ _ h=>h) (Or.inl ⟨zac,λW hW=>zM⟩) hS ?_;(try simp only[Act.put]);refine wpAnyH_done KJ ?_ _;have B08:=aa (Pd HS.o B8.o);obtain⟨ls1,UI,Nk⟩:=Ho.o.th1;obtain⟨ls2,UH,TF⟩:=Ho.o.th2;have D8:=aa (zt.o.on B8.o);have S8:=aa (HSb.o.on (w:=wr) B8.o);have X8:=aa (NS.o.on (w:=wr) B8.o);have rh:=sN W8 d pl bl (H.o.on B08.o) 4 (.inl rfl) k (by have:=xE.p3;omega) _ au D8.o.ns zbB ls1 (by rw[xE.p1,Hn.p1];exact UI);rw[Nk] at rh;have En:=aa rh;have z8:=S8.o.j1;have f8:=S8.o.free 0;have z80:=S8.o.j0;clear rh Nk UI NS HSb mn HL bT Wv HS HX zt Hs rj;go_upto_region 21 with(go_at_call 51;refine En.o.mono ?_;rintro e W9 ⟨v9,rfl,o9,b9⟩;obtain⟨Ap,np,cp,rfl⟩:=o9.bu;have O9:=aa o9;have B9:=aa b9;have S9:=aa (S8.o.on b9);have y9:=S9.o.j0;have f9:=S9.o.free 0;clear o9 b9)
   have MS:aq (W9.setCell (ol sb) (am Ap np cp)) sb 55 [am Ap np cp,am A nd cd]:=S9.o.set 0 _;have X10:aq (W9.setCell (ol sb) (am Ap np cp)) xb 60 C:=(X8.o.on B9.o).az (p:=ol sb) (aq.ne X8.o S8.o Fd) _;have P10:aB (W9.setCell (ol sb) (am Ap np cp)) W8 3 .i64 (am Ap np cp) ag:=aB.aT (T:=55) (nb:=sb) O9.o S9.o Fd 0 _;have D10:aB (W9.setCell (ol sb) (am Ap np cp)) w 3 .i64 (am A nd cd) au:=aB.aT (T:=55) (nb:=sb) (D8.o.on B9.o) S9.o Fd 0 _;have oU:ci w (W9.setCell (ol sb) (am Ap np cp)):=(Pd B08.o B9.o).setCell (p:=ol sb) Hsw.o _;obtain⟨uh,agY⟩:∃y,y=W9.setCell (ol sb) (am Ap np cp):=⟨_,rfl⟩;rw[<-agY] at MS X10 P10 D10 oU|-;have MS:=aa MS;have X10:=aa X10;have P10:=aa (P10.low B08.o.size);have D10:=aa D10;have oU:=aa oU;have tG:=sN uh d pl bl (H.o.on oU.o) 5 (.inr rfl) n Hn.q2 _ ag P10.o.ns (by rw[Ho.o.pl,<-Hn.p1,<-xE.p1];have:=xE.p3;omega) ls2 (by rw[Hn.p1];exact UH);rw[TF] at tG;have JT:=aa tG;have z10:=MS.o.j0;have oJ:counts.length=n:=Ho.o.cl.trans Hn.p1.symm;have tk:=aa oJ;clear tG TF UH agY z8 f8 z80 y9 f9 En O9 B9 S9 S8 X8 D8 oJ;go_upto_region 27 with(first
    |(go_at_call 51;refine JT.o.mono ?_;rintro e MP ⟨v11,rfl,Y9,Ek⟩;have Th:=aa Ek;have HNu:=aa (yo MP v11 counts Y9.ns zbY Ho.o.cr);clear Y9 Ek)
    |(go_at_call 53;refine HNu.o.mono ?_;rintro e Bg ⟨v12,rfl,o12,Be⟩;have Ur:=aa Be;have HOf:=aa (Vs Bg Bg go v12 counts o12.ns zbY zbY Ho.o.cr);clear o12 Be)
    |(go_at_call 52;refine HOf.o.mono ?_;rintro e W13 ⟨tb,cb,mb,rfl,t13,l1,l2,l3,mO⟩;have T13:=aa t13;have B13:=aa mO;have L13:Af (Bg.heap.size<=tb/\Bg.heap.size<=cb/\Bg.heap.size<=mb):=⟨l1,l2,l3⟩;clear t13 mO l1 l2 l3))
   have mO:=Pd Th.o (Pd Ur.o B13.o);have abJ:=aa (Pd oU.o mO);have S13:=aa (MS.o.on mO);have TW:=aa (X10.o.on mO);have P13:=aa (P10.o.on mO);have D13:=aa (D10.o.on mO);have hlen:(aE.of counts).len=n:=tk.o;have ta:=vC W13 tb cb mb (aE.of counts) T13.o _ _ ag au P13.o.ns D13.o.ns (by rw[hlen,Ho.o.pl,<-Hn.p1];exact(uK wl).1) (by rw[Ho.o.dl,Ho.o.pl,<-Hn.p1];exact(uK wl).2) (λy hy=>by have:=Ho.o.rg y hy;have:=Hn.o;omega);rw[Ho.o.sh] at ta;have HSh:=aa ta;have lD:=aa hlen;have z0:=S13.o.j0;have z1:=S13.o.j1;clear mO hlen ta z10 JT HNu HOf MS X10 P10 D10;go_upto_region 30 with(first
    |(go_at_call 54;refine HSh.o.mono ?_;rintro e W14 ⟨rfl,b14⟩;have B14:=aa b14;have HNP:=aa (Cw W14 tb n 2 _ _ (by have:=(T13.o.on b14).x0;rw[lD.o] at this;exact this) wl wl);clear b14)
    |(go_at_call 48;refine HNP.o.mono ?_;rintro e TX ⟨pb,rfl,lp,p15,b15⟩;have P15:=aa p15;have B15:=aa b15;have Lp:=aa lp;clear p15 b15 lp))
   have b15:=Pd B14.o B15.o;have Oy:=aa (Pd abJ.o b15);have S15:=aa (S13.o.on b15);obtain⟨z0,z1⟩:=gh S15.o;obtain⟨r0,r1,r2,r3,r4,r5,r6,r7,hr8⟩:∃r0 r1 r2 r3 r4 r5 r6 r7,x.roots=[r0,r1,r2,r3,r4,r5,r6,r7]:=Ys Hx.o.r8;obtain⟨m0,m1,m2,m3,m4,m5,m6,m7,hm8⟩:∃m0 m1 m2 m3 m4 m5 m6 m7,x.marks=[m0,m1,m2,m3,m4,m5,m6,m7]:=Ys Hx.o.m8;have⟨gg,hgg⟩:=eX x.gen;have⟨bb,bO⟩:=eX x.blocks;have hCe:aP x=[ip gg,gc bb,gc r0,gc r1,gc r2,gc r3,gc r4,gc r5,gc r6,gc r7,ip m0,ip m1,ip m2,ip m3,ip m4,ip m5,ip m6,ip m7]:=(by unfold aP;rw[hr8,hm8,hgg,bO];rfl);have HCe:=aa hCe;have x15:=(TW.o.on b15);rw[HC.o,hCe] at x15;have Tk:=x15.alloc (.map #[] 0);have HLx:=aa (ef (w:=TX.alloc (.map #[] 0)) (b:=xb) (cs:=[ip gg,gc bb,gc r0,gc r1,gc r2,gc r3,gc r4,gc r5,gc r6,gc r7,ip m0,ip m1,ip m2,ip m3,ip m4,ip m5,ip m6,ip m7]) rfl (λj' v hj=>Tk.cell hj));clear b15 hr8 hm8 hgg bO hCe x15 Tk HSh HNP;have xA:= @run_makeMap prog;go_wp2_with((with_reducible refine wl_load _ _ ?_ HLx.o ?_);(·rfl);go_frame);go_ret2;have b16:ci TX (TX.alloc (.map #[] 0)):=aF _ _;have bO:=Rm (W:=TX) (I:=⟨TX.heap.size+1,d,pl,tb,cb,mb,pb,TX.heap.size⟩) (base:=w.heap.size) rfl rfl Ho.o Hx.o (H.o.on Oy.o) ((T13.o.on B14.o).on B15.o) P15.o ((P13.o.on B14.o).on B15.o) ((D13.o.on B14.o).on B15.o) _ (show _=_ from by unfold ni;rw[HCe.o,show(((x.gen%2).toNat:Nat):Int)=sl from by rw[Hsl.o];have:=Qdo x.gen (show(2:Int)≠0 by decide);omega]);have am8:=Oy.o.size;have wV:=Qh oU.o.size (Qh Th.o.size Ur.o.size);have hl:=L13.o;have Wt:=Lp.o;have ani:=Qh abJ.o.size B14.o.size;refine⟨_,?_,bO,⟨rfl,rfl,?_,Qh wV hl.1,Qh wV hl.2.1,Qh wV hl.2.2,Qh ani Wt,am8⟩,(Oy.o.alloc Oy.o.size _).alloc (Qh Oy.o.size Sv) _⟩
   .simp
   .show w.heap.size<=TX.heap.size+1;omega
variable{rs:List (Nat × Nat)}{os ox:Operand}
def ux(p:Nat×Nat):List Va:=[.int .i64 p.1,.int .i64 p.2]
def iz(ae:List (Nat×Int))(n:Nat):List (Nat×Nat):=(range n).map λj=>(aC ae j,aC ae (j+1))
def FH(ae:List (Nat×Int))(n:Nat):iz ae (n+1)=iz ae n++[(aC ae n,aC ae (n+1))]:=by simp[iz,Qbd]
def rL(ae:List (Nat×Int))(n:Nat):(iz ae n).length=n:=by simp[iz]
def zJ{x k n:Nat}(h:x<k)(h2:x<n):n - (intOf (ac (k:Int))).toNat<n - (intOf (ac (x:Int))).toNat:=zaK
def oM(w:Wo)(base:Nat)(v:Va)(rs:List (Nat×Nat)):Prop:=w.ownsRow base 231 2 v rs.length (rs.flatMap ux)
def ahL:(prog.info? 231).map (λi=>(i.zero,i.size,i.bytes))=some (some (.agg #[ac 0,ac 0]),2,16):=KJ
def PY(p:Nat×Nat):∀u∈ux p,u.oneCell' =true:=by intro u hu;simp[ux] at hu;obtain rfl|rfl:=hu<;>rfl
section
def wl_app_r{xs:List (Nat×Nat)}(bN:oM w base v xs)(g:Nat)(p:Nat×Nat)(hx:aq w g 231 (ux p))
  (hb:xs.length<=10000) (ey:base<=w) (hs:a.eval os=v) (AM:a.eval ox= el g 0 1 1)
  (hK:∀v' w',oM w' base v' (xs++[p])->w.grownBy w' v.ownBlock->wpList prog ops Q rest (a.put dst v') w'):
  wpList prog ops Q (⟨dst,.call {callee:= .builtin .append,args:= #[os,ox],argTypes:= #[228,228]},ty,pos,after,none⟩::rest) a w:=
 wl_append base 228 231 _ 2 16 underlying228 ahL rfl Mx v xs.length _ bN (B:=w.heap.size) _ 1 (ux p) (by
   have:=hx.sl (o:=0) (n:=1) (sz:=2) (c:=1) (by simp[ux]) go AN
   exact this) (PY p) Do Mx ey hs AM
  (λv' w' h1 h2=>hK v' w' (by rw[oM,Qo,QP];simpa using h1) h2)
end
def oM.form{w:Wo}(h:oM w base v rs):∃A n c,v= am A n c:=zek
def oM.on{w w' :Wo}(h:oM w base v rs)(hb:ci w w'):oM w' base v rs:=aS h hb
def PR(w:Wo)(dep:Nat)(ae:List (Nat×Int))(hs:eQ dep ae)(v:Va)(hv:Ns w w .u16 v (expand ae)):
  Calls prog 134 #[v] w λe w' =>∃v',e= .returned v'/\oM w' w v' (iz ae ae.length)/\ci w w' :=by
 obtain⟨A,c,rfl,-,-⟩:=hv.form;have⟨n,hn⟩:=eX ((expand ae).length);have HV:=aa hv;rw[<-hn] at HV|-;have Hn:=dK hn (by rw[hn];exact hs.len:n<=256);have HS:=aa hs;have n256:(n:Int)<=256:=by have:=Hn.q1;omega
 clear hv hs hn;go_in;go_wp2;go_loopw [3,4] (λv i wr=>∃j x:Nat,i= ac x/\Af (x=aC ae j/\j<=ae.length/\oM wr w v (iz ae j)/\ci w wr)) (λ_ i _=>n - (intOf i).toNat)
 .exact⟨0,0,rfl,rfl,lm,Qbn _ _ _ _,pi⟩
 .obtain⟨j,x,rfl,HR⟩:=hrel;obtain⟨A0,n0,c0,rfl⟩:=HR.p3.form;by_cases aJ:j<ae.length
  .obtain⟨s,lA⟩:∃s,ae[j]? =some s:=⟨_,Qf aJ⟩;have kO:=HS.o.pos lA;have tt:=bH ae j s lA;have hle:=fH ae (j+1);rw[tt,<-HR.p1,<-Hn.p1] at hle;have i0:(0:Int)<=x:=(by omega);have i1:(x:Int)<n:=Mx;have nZ:wrap64 ((x:Int)+1)=(x:Int)+1:=vW;obtain⟨b,o,c',hv,-,-,hb,aH⟩:=HV.o.cells zds;obtain rfl:A=some (an b o):=No;have iO:∀i,i<s.1->w.cell? (an b (o+(x+i)))=some (pK s.2):=λi hi=>(by have h1:=eh ae j s lA i hi;rw[<-HR.p1] at h1;rw[aH (x+i) zds,Qe,h1];rfl);have zu:=aa iO;have ahS:Af (x+s.1=n\/∃y,w.cell? (an b (o+(x+s.1)))=some (pK y)/\y≠s.2):=by
    obtain h1|⟨y,h1,h2⟩:=HS.o.next lA
    .rw[<-HR.p1,<-Hn.p1] at h1;exact .inl h1
    .rw[<-HR.p1] at h1;refine .inr ⟨y,?_,h2⟩;rw[aH (x+s.1) (Ql.1 h1).1,Qe,h1];rfl
   have Hs:=kH lA (by rw[tt,HR.p1]:aC ae (j+1)=x+s.1) kO hle;have HX:=aa HR.p1;clear iO aH hv lA tt kO hle;change Af _ at hb aJ;go_wp2;have HOr:=aa HR.p3;have MV:=aa HR.q3;clear HR;have mZ:Af (∀(W2 W3:Wo) (g:Nat),ci wr W2->g=W2.heap.size->W3=qr W2 #[ac x,ac (x+s.1:Nat)] 231->oM W3 w (am A0 n0 c0) (iz ae j)/\aq W3 g 231 (ux (x,x+s.1))/\ci w W3):=λW2 W3 g h2 hg h3=>(by subst hg h3;exact⟨(HOr.o.on h2).on (aF W2 _),ar W2 (ux (x,x+s.1)) _,(Pd MV.o h2).alloc (Qh MV.o.size h2.size) _⟩);have Hll:Af ((iz ae j).length<=10000):=(by show _<=_;rw[rL];exact Qh (QX aJ.o) (Qh HS.o.many Fd));have Hru:Af (iz ae (j+1)=iz ae j++[(x,x+s.1)]):=(by show _=_;rw[FH,Hs.p2,<-HX.o]);go_loopw [5] (λkv wr2=>∃k:Nat,kv= ac k/\Af (x<k/\k<=x+s.1/\ci wr wr2)) (λkv _=>n - (intOf kv).toNat)
   .exact⟨x+1,rfl,XL x,by have:=Hs.o;omega,pi⟩
   .obtain⟨k,rfl,HK⟩:=hrel;have gd:=((Pd MV.o HK.q2).cell (p:=an b (o+x)) hb.o).trans (zu.o 0 Hs.p3);by_cases hk:k<x+s.1
    .have k0:(0:Int)<=k:=(by omega);have k1:(k:Int)<n:=(by have:=Hs.o;omega);have DZ:wrap64 ((k:Int)+1)=(k:Int)+1:=vW;have oP:wr.cell? (an b (o+k))=some (pK s.2):=(by refine((Pd MV.o HK.q2).cell (p:=an b (o+k)) hb.o).trans ?_;have:=zu.o (k - x) (by have:=HK.p1;omega);rwa[show x+(k - x)=k by have:=HK.p1;omega] at this);have Hk:=aa hk;have Hk1:Af (k<n):=(by show k<n;omega);have HKb:=aa HK.o;clear hk HK;go_wp2;go_quiet (fail);go_wp2;go_roundw
     .exact⟨k+1,If,Nat.lt_succ_of_lt HKb.p1,Hk.o,below_drewN HKb.q2 _⟩
     .exact al Hk1.o
    .have si:k=x+s.1:=(by have:=HK.o;omega);have DZ:wrap64 ((k:Int)+1)=(k:Int)+1:=(by unfold wrap64;have:=Hs.o;omega);have HKb:=aa HK.q2;have Hk2:=aa si;have HE:Af (∀q,oM (qr (wr.drewN q) #[ac x,ac k] 231) w (am A0 n0 c0) (iz ae j)/\aq (qr (wr.drewN q) #[ac x,ac k] 231) wr 231 (ux (x,x+s.1))/\ci w (qr (wr.drewN q) #[ac x,ac k] 231)):=λq=>(by have:=mZ.o (wr.drewN q) _ _ (below_drewN HK.q2 q) rfl rfl;rw[<-si] at this;rw[<-si];exact this);have Kh:Af (∀(q:Nat) (v' :Va) (w' :Wo),oM w' w v' (iz ae j++[(x,x+s.1)])->(qr (wr.drewN q) #[ac x,ac k] 231).grownBy w' (Value.slice A0 n0 c0).ownBlock->k=aC ae (j+1)/\j+1<=ae.length/\oM w' w v' (iz ae (j+1))/\ci w w'):=λq v' w' h1 h2=>(by refine⟨by rw[si,Hs.p2],aJ.o,by rw[Hru.o];exact h1,(HE.o q).2.2.grown h2 (HE.o q).2.2.size (λj' e=>(Xr (HE.o q).1 j' e).1)⟩);have HM:=dK HK.p1 (by have:=Hs.o;omega:x<n);clear HK mZ;obtain he|⟨y,hy,hyn⟩:=ahS.o
     .have k1:¬k<n:=(by omega);clear he si hk;go_wp2;go_quiet (fail);go_wp2_with(at_builtin;(with_reducible refine wl_app_r (os:= .tmp 29) (ox:= .tmp 33) (base:=w.heap.size) (HE.o _).1 wr _ (HE.o _).2.1 ?_ ?_ ?_ ?_ ?_);(·exact Hll.o);(·exact(HE.o _).2.2.size);(·rfl);(·rfl);intro v4 w4 ua og;obtain⟨A4,n4,c4,rfl⟩:=ua.form;have WW:=aa (Kh.o _ _ _ ua og);clear ua og);go_roundw
      .exact⟨j+1,k,rfl,WW.o⟩
      .exact zJ HM.p1 HM.q1
     .have Sz:wr.cell? (an b (o+k))=some (pK y):=((Pd MV.o HKb.o).cell (p:=an b (o+k)) hb.o).trans (si▸hy);have Io:=Xc hyn;have k0:(0:Int)<=k:=(by omega);by_cases k1:k<n
      .clear si hk hy hyn;go_wp2;go_quiet (fail);go_wp2_with(at_builtin;(with_reducible refine wl_app_r (os:= .tmp 29) (ox:= .tmp 33) (base:=w.heap.size) (HE.o _).1 wr _ (HE.o _).2.1 ?_ ?_ ?_ ?_ ?_);(·exact Hll.o);(·exact(HE.o _).2.2.size);(·rfl);(·rfl);intro v4 w4 ua og;obtain⟨A4,n4,c4,rfl⟩:=ua.form;have WW:=aa (Kh.o _ _ _ ua og);clear ua og);go_roundw
       .exact⟨j+1,k,rfl,WW.o⟩
       .exact zJ HM.p1 HM.q1
      .clear si hk hy hyn Sz Io;go_wp2;go_quiet (fail);go_wp2_with(at_builtin;(with_reducible refine wl_app_r (os:= .tmp 29) (ox:= .tmp 33) (base:=w.heap.size) (HE.o _).1 wr _ (HE.o _).2.1 ?_ ?_ ?_ ?_ ?_);(·exact Hll.o);(·exact(HE.o _).2.2.size);(·rfl);(·rfl);intro v4 w4 ua og;obtain⟨A4,n4,c4,rfl⟩:=ua.form;have WW:=aa (Kh.o _ _ _ ua og);clear ua og);go_roundw
       .exact⟨j+1,k,rfl,WW.o⟩
       .exact zJ HM.p1 HM.q1
  .have hj:j=ae.length:=(by have:=HR.p2;omega);have hx:x=n:=(by rw[HR.p1,hj,nM ae _ go,Hn.p1]);have fF:=aa HR.q2;rw[hj] at fF;clear HR aJ hj;subst hx;go_wp2;exact zev
def U6:∀e:Nat,e<=8->bits .and .i64 ((2^e:Nat):Int) (((2^e:Nat):Int) - 1)=0
 |0,_|1,_|2,_|3,_|4,_|5,_|6,_|7,_|8,_=>Fd
 |e+9,h=>by omega
def rz{e:Nat}(h:e<=8):1<=2^e/\2^e<=256:=⟨Qba e,Qh (Qcr Fd h) Fd⟩
def Ig(w:Wo)(b:Int)(h0:0<b)(h1:b<4096):
  Calls prog 135 #[pK b] w (iF true λw' =>w=w') :=by
 go_in;go_wp2;exact vl
def Km(w:Wo)(x n:Nat)(e:Nat)(he:e<=8)(hn:n=2^e)(hm:x%n=0):
  Calls prog 136 #[.agg #[ac x,ac (x+n:Nat)]] w (iF true λw' =>ci w w') :=by
 have hb:bits .and .i64 (n:Int) ((n:Int) - 1)=0:=hn▸(U6 e he);have h2:=rz he;rw[<-hn] at h2;have⟨y,hy⟩:=eX (x+n);rw[<-hy];have hs:wrap64 ((y:Int) - x)=n:=vW;have Ip:wrap64 ((n:Int) - 1)=(n:Int) - 1:=vW;have n0:(n:Int)≠0:=Mx;have hr:Int.tmod (x:Int) n=0:=by rw[<-Qiq,hm];rfl
 have hB:=aa (aF w (.cells #[ac x,ac y] 231));clear he hn hm h2 hy;go_in;go_wp2;go_ret;exact⟨rfl,hB.o⟩
def MKq:MK Int Int where
 mt:=227
 kt:=30
 vt:=3
 xz:=underlying227
 keyed:=Qfq underlying30
 kv:= .int .u16
 kl:= .int .u16
 qY:=λx=>(Lit.int .u16 x).wf=true
 ir:=λx h=>Qeo underlying30 h
 Bn:=λx y h=>EQ
 sB:=λv l h=>by obtain⟨y,e1,e2,e3⟩:=Maps.keyOf_int_inv underlying30 h;exact⟨y,e3,e1⟩
 vv:= .int .i64
 Ix:=λy=> .lit (.int .i64 y)
 R:=RI .i64
 MZ:=IU .i64
 Bm:=zy .i64
 zo:=zz .i64
 zero:=0
 hz:=λw=>by kernel_rfl
def ahw{x:Int}(h:0<=x/\x<=65535):(Lit.int .u16 x).wf=true:=zel
def Cg:∀dep:Nat,dep<=8->wrap64 ((2:Int)^dep)=((2^dep:Nat):Int)
 |0,_|1,_|2,_|3,_|4,_|5,_|6,_|7,_|8,_=>zaW
 |e+9,h=>by omega
def zgh(dep:Nat)(v:Va):List Va:=[.int .u8 dep,v]
def RR(rs:List (Nat×Nat))(j:Nat)(p:Nat×Nat)(h:rs[j]? =some p):(rs.flatMap ux)[j*2]? =some (ac p.1)/\(rs.flatMap ux)[j*2+1]? =some (ac p.2):=by
 induction rs generalizing j with
 |nil=>simp at h
 |cons a r ih=>
  cases j with
  |zero=>simp at h;subst h;exact⟨rfl,rfl⟩
  |succ j=>
   have h1:=ih j EQ;rw[QH,show(j+1)*2=j*2+2 by omega,show j*2+2+1=(j*2+1)+2 by omega];exact h1
def KF(ae:List (Nat×Int))(n j:Nat)(h:j<n):(iz ae n)[j]? =some (aC ae j,aC ae (j+1)):=by rw[iz,Qt,Qam h];rfl
def aci{j m x n k:Nat}(h:j<m)(hx:x<n)(hn:n<=256)(hm:m=k)(Nf:m<=256):(0:Int)<=j/\(j:Int)<m/\(0:Int)<=x/\(x:Int)<n/\wrap64 ((j:Int)+1)=(j:Int)+1/\j<=256/\j<k/\0<n:=vW
structure abG(w:Wo)(ae:List (Nat×Int))(db mb:Nat)(dep:Nat)(sv rv:Va)(j:Nat)(wr:Wo):Prop where
 le:j<=ae.length
 map:MG MKq wr mb (fx ((ae.take j).map Prod.snd).reverse) j
 dir:aq wr db 66 (zgh dep sv)
 rs:oM wr w rv (iz ae ae.length)
 low:Below w w wr
def vD(w:Wo)(dep:Nat)(ae:List (Nat×Int))(hs:eQ dep ae)(v:Va)(hv:Ns w w .u16 v (expand ae)):
  Calls prog 67 #[.agg #[io dep,v]] w (iF true λw' =>ci w w') :=by
 obtain⟨A,c,rfl,-,-⟩:=hv.form;have⟨n,hn⟩:=eX ((expand ae).length);have⟨m,hm⟩:=eX ae.length;have HV:=aa hv;rw[<-hn] at HV|-;have Hn:=kH hn (by rw[hn];exact hs.len:n<=256) hm (by rw[hm];exact hs.many:m<=256);have agc:=Cg dep hs.d8;have uz:2^dep=n:=by rw[hn];exact hs.sum.symm
 rw[uz] at agc;have d8:¬8<dep:=by have:=hs.d8;omega
 have d8i:¬(8:Int)<dep:=by have:=hs.d8;omega
 have HS:=aa hs;have avH:(m:Int)<=256:=wl;have⟨W0,aY⟩:=eX (w.alloc (.cells #[io dep,am A n c] 66));have X0:Af (aq W0 w 66 (zgh dep (am A n c))):=zaL;have B0:Af (ci w W0):=aY▸(aF _ _);have fD:=aa aY.symm;have x0:W0.cell? w=some (io dep):=X0.o.cell rfl;have x1:W0.cell? (an w.heap.size 1)=some (am A n c):=X0.o.cell rfl;have xA:= @run_makeMap prog;clear hv hs hn hm uz aY;go_in;go_upto_region 1 with fail;rw[fD.o];go_step3;go_upto_region 4 with fail;have M1:MG MKq (W0.alloc (.map #[] 0)) W0 (λ_=>none) 0:=MG.made W0;have b1:=aF W0 (.map #[] 0);have⟨W1,aW⟩:=eX (W0.alloc (.map #[] 0));have⟨mb,tB⟩:=eX W0.heap.size;have hmw:w.heap.size<=mb:=by rw[tB];exact B0.o.size
 rw[<-aW] at M1 b1|-;rw[<-tB] at M1|-;obtain⟨M1,Hmw,B1,X1⟩:=rx M1 hmw (Pd B0.o b1) (X0.o.on b1);have y1:W1.cell? (an w.heap.size 1)=some (am A n c):=X1.o.cell rfl;have HRn:=aa (PR W1 dep ae HS.o (am A n c) (by have h1:Ns W1 w .u16 (am A n c) (expand ae):=Sl.below (by rw[Hn.p1] at HV|-;exact HV.o) B1.o;exact Sl.more h1 B1.o.size));clear aW tB hmw b1 x0 x1 X0 agc xA d8 d8i fD;go_step3;go_wp2_with(go_at_call 134;refine HRn.o.mono ?_;rintro e W2 ⟨rv,rfl,o2,b2⟩;obtain⟨Ar,nr,cr,rfl⟩:=o2.form;have O2:=aa o2;have B2:=aa b2;have Hnr:Af (nr=m):=(by have h1:=o2.1;have h2:=(Sl.bU o2).form;obtain⟨A',c',e,-⟩:=h2;rw[rL,<-Hn.p3] at e;injection e);clear o2 b2);have TA:=Hnr.o;subst TA;have rj:Af (abG w ae w mb dep (am A n c) (am Ar nr cr) 0 W2):=⟨lm,M1.o.on B2.o,X1.o.on B2.o,by have h1:=O2.o;exact fB h1 B1.o.size,Pd B1.o B2.o⟩;clear y1 HRn M1 O2 X1;go_loopw [24] (λi wr=>∃j:Nat,i= ac j/\Af (abG w ae w mb dep (am A n c) (am Ar nr cr) j wr)) (λi _=>nr - (intOf i).toNat)
 .exact⟨0,rfl,rj.o⟩
 .obtain⟨j,rfl,HR⟩:=hrel;by_cases aJ:j<nr
  .obtain⟨s,lA⟩:∃s,ae[j]? =some s:=⟨_,Qf wl⟩;have kO:=HS.o.pos lA;have tt:=bH ae j s lA;have hle:=fH ae (j+1);rw[tt,<-Hn.p1] at hle;have⟨x,hx⟩:=eX (aC ae j);have⟨y,hy⟩:=eX (x+s.1);rw[<-hx] at tt hle;rw[<-hy] at tt hle;obtain⟨i0,i1,j0,j1,fp,agD,agC,jU⟩:=aci aJ (Qn (Qn (Qiz kO) (Xg hy.symm)) hle) Hn.p2 Hn.p3 Hn.q3;have eu:=aa fp;obtain⟨b,o,c',hv,-,-,hb,aH⟩:=HV.o.cells (Hn.p1▸jU);obtain rfl:A=some (an b o):=(by injection hv);have Yy:wr.cell? (an b (o+x))=some (pK s.2):=(by have h1:=eh ae j s lA 0 kO;rw[XC,<-hx] at h1;rw[HR.o.low.cell (p:=an b (o+x)) hb,aH x (Hn.p1▸(Xi.1 j1)),Qe,h1];rfl);have kr:=Sl.bU HR.o.rs;obtain⟨br,or,cr',hvr,-,-,dL⟩:=kr.row (by rw[rL];have:=Hn.o;omega);obtain rfl:Ar=some (an br or):=(by injection hvr);obtain⟨f1,f2⟩:=RR _ j _ (KF ae ae.length j wl);have z0:wr.cell? (an br (or+j*2))=some (ac x):=hx▸(dL.2 _ _ f1);have z1:wr.cell? (an br (or+j*2+1))=some (ac y):=(by rw[XB,<-tt];exact dL.2 _ _ f2);obtain⟨e,he8,MC,EC⟩:=HS.o.two j s lA;rw[<-hx] at EC;have uA:=HS.o.Ej s (Qi lA);have HWh:=aa (λW=>Km W x s.1 e (Qh he8 HS.o.d8) MC EC);rw[<-hy] at HWh;have AL:=aa (λW=>Ig W s.2 uA.1 uA.2);have mY:=aa (ahw ⟨Qca uA.1,Qca (Qhp uA.2 Fd)⟩);have zj:s.2∉((ae.take j).map Prod.snd).reverse:=λhm=>(by rw[List.mem_reverse] at hm;obtain⟨j',Eg,ud⟩:=Qbu hm;rw[Qq,Qu] at Eg;rw[Qah,List.getElem_take] at ud;obtain⟨hjj,hee⟩:=Ql.1 lA;have:=(Qio.1 HS.o.nd) j' j BY (by simpa using hjj) Mx;rw[Qah,Qah,ud,hee] at this;exact this rfl);have⟨seen,IM⟩:=eX (((ae.take j).map Prod.snd).reverse);have Pq:((ae.take (j+1)).map Prod.snd).reverse=s.2::seen:=(by rw[IM,aA _ _ _ lA,QL,List.reverse_append];rfl);rw[<-IM] at zj;have WH:=HR.o.map;rw[<-IM] at WH;have hf:fx seen s.2=none:=(by rw[fx,Xd zj]);have q0:∀W,MG MKq W mb (fx seen) j->(Instr.lookup 227 (.map (some mb)) (pK s.2) false).run prog W= .ok (ac 0) W:=λW hW=>(by have h1:=hW.at (x:=s.2) mY.o;rw[hf] at h1;exact h1);have b3:=aF wr (.cells #[ac x,ac y] 231);obtain⟨X3,D3,M3,R3,L3⟩:=ul (ar wr [ac x,ac y] 231) (HR.o.dir.on b3) (WH.on b3) (HR.o.rs.on b3) (Pd HR.o.low b3);have s3:=(b3.cell (p:=an b (o+x)) (Qn hb HR.o.low.size)).trans Yy;have Hj:=dK agD agC;clear lA kO tt hle hx hy hv aH Yy kr hvr dL f1 f2 he8 MC EC uA zj IM WH HR agD agC jU;change Af _ at Pq hf aJ hb;go_upto_region 7 with fail;have⟨W3,cD⟩:=eX (wr.alloc (.cells #[ac x,ac y] 231));have⟨rb,ft⟩:=eX wr.heap.size;rw[<-cD] at X3 D3 M3 R3 L3 s3|-;rw[<-ft] at X3|-;have d1:W3.cell? (an w.heap.size 1)=some (el b o n c):=D3.o.cell rfl;obtain⟨r0,r1⟩:=gh X3.o;have p0:=q0 W3 M3.o;clear cD ft b3 z0 z1;go_upto_region 9 with((refine wl_put MKq (f:=fx seen) (s:=j) rfl M3.o ?_ s.2 1 mY.o rfl rfl rfl ?_);(·have:=Hj.o;omega);intro W4 hm4 og;have HM4:=aa hm4;have HG4:=aa og;clear hm4 og);have TF:eM (fx seen) s.2 1 s.2=some 1:=(by simp[eM]);have p1:(Instr.lookup 227 (.map (some mb)) (pK s.2) false).run prog W4= .ok (ac 1) W4:=(by have h1:=HM4.o.at (x:=s.2) mY.o;rw[TF] at h1;exact h1);have X4:=X3.o.grown HG4.o (λe=>X3.o.bS M3.o (Qr e));obtain⟨r40,r41⟩:=gh X4;have HE:Af (∀W,ci W4 W->abG w ae w mb dep (el b o n c) (el br or nr cr) (j+1) W):=λW hW=>by
    refine⟨Hj.q1,?_,(D3.o.grown HG4.o (λe=>D3.o.bS M3.o (Qr e))).on hW,?_,(L3.o.grown HG4.o L3.o.size (λj' e=>by rw[<-Qr e];exact Hmw.o)).trans (hW.mono (Qh L3.o.size HG4.o.size))⟩
    .rw[Pq.o,<-ym];have h1:=HM4.o;rw[show(fx seen s.2).isSome=false from by rw[hf.o];rfl] at h1;exact MG.on h1 hW
    .exact oM.on (Qac R3.o HG4.o (.inr (kj M3.o R3.o))) hW
   clear TF X4 q0;go_wp2_with(first
    |(go_at_call 135;refine(AL.o _).mono ?_;rintro e W5 ⟨rfl,rfl⟩)
    |(go_at_call 136;refine(HWh.o _).mono ?_;rintro e W5 ⟨rfl,b5⟩;have B5:=aa b5;clear b5))
   exact⟨⟨j+1,xh,HE.o W5 B5.o⟩,al aJ.o⟩
  .have i1:¬(j:Int)<nr:=(by omega);have HL:=aa HR.o.low;clear HR aJ;go_wp2;(try rw[Qv]);go_ret;exact⟨rfl,HL.o⟩
def I8{p:Int}(hp:bI p){dep:Nat}(hd:dep<=8):0<=p/2^(64 - dep)/\p/2^(64 - dep)<256:=by
 have h0:=hp.1;have h1:=hp.2;have kO:(0:Int)<2^(64 - dep):=Qgn Fd;refine⟨Qie h0 (Qca kO),?_⟩;refine Int.ediv_lt_of_lt_mul kO (Qgw h1 ?_);have e:∀d:Nat,d<=8->(18446744073709551616:Int)<=256*2^(64 - d):=λd hd=>by
  match d,hd with
  |0,_|1,_|2,_|3,_|4,_|5,_|6,_|7,_|8,_=>decide
  |d+9,h=>omega
 exact e dep hd
def VU(w:Wo)(dep:Nat)(ae:List (Nat×Int))(hs:eQ dep ae)(v:Va)(hv:Ns w w .u16 v (expand ae))(p:Int)(hp:bI p):
  Calls prog 73 #[.agg #[io dep,v],ip p] w (iF (.tuple #[ac (p/2^(64 - dep)),ac 0]) λw' =>ci w w') :=by
 obtain⟨A,c,rfl,-,-⟩:=hv.form;have⟨W0,aY⟩:=eX (w.alloc (.cells #[io dep,am A (expand ae).length c] 66));have X0:Af (aq W0 w 66 (zgh dep (am A (expand ae).length c))):=zaL;have B0:Af (ci w W0):=aY▸(aF _ _);have HR:=vD W0 dep ae hs _ (Sl.more (Sl.below hv B0.o) B0.o.size);have⟨n,hn⟩:=eX ((expand ae).length);rw[<-hn] at aY X0 HR|-;have HR:=aa HR;have fD:=aa aY.symm;have x0:W0.cell? w=some (io dep):=X0.o.cell rfl;have x1:W0.cell? (an w.heap.size 1)=some (am A n c):=X0.o.cell rfl;have d8:=hs.d8;clear hv hn aY hs;go_in;go_upto_region 1 with fail;rw[fD.o];go_wp2_with(go_at_call 67;refine HR.o.mono ?_;rintro e W1 ⟨rfl,b1⟩;have B1:=aa b1;have y0:W1.cell? w=some (io dep):=(X0.o.on b1).cell rfl;clear b1);go_ret2;obtain⟨l0,l1⟩:=I8 hp d8;have hw:wrap64 (p/2^(64 - dep))=p/2^(64 - dep):=by generalize p/2^(64 - dep)=q at*;exact vW
 rw[hw];exact⟨rfl,Pd B0.o B1.o⟩
variable{f k s x:Nat}
def vX:∀e:Nat,e<=8->Lib.bitLen (2^e)=e+1
 |0,_|1,_|2,_|3,_|4,_|5,_|6,_|7,_|8,_=>zaW
 |e+9,h=>by omega
def acq{i q:Nat}(hi:k=x+i)(h1:k<n)(hn:n<=256)(hf:q<=n):(0:Int)<=k/\(k:Int)<n/\wrap64 ((k:Int)+1)=(k:Int)+1/\wrap64 ((q:Int) - 1)=(q:Int) - 1/\wrap64 ((q:Int)+1)=(q:Int)+1:=vW
def anB{g:Nat}(h:g+1<=k)(h1:k<x+s)(h2:x+s<=n)(h3:n<=256):(0:Int)<=g/\(g:Int)<n/\wrap64 ((g:Int)+1 - 1)=g/\wrap64 (g:Int)=g:=vW
def ab1(g:Nat):(intOf (ac (g:Int))).toNat<(intOf (ac ((g+1:Nat):Int))).toNat:=by simp[intOf];try omega
def acr{e:Nat}(h:f=x+s)(h2:x+s<=n)(h3:n<=256)(h4:e<=dep)(h5:dep<=8):wrap64 ((f:Int) - x)=s/\IntKind.u64.wrap (s:Int)=s/\wrap64 ((dep:Int)+1)=(dep:Int)+1/\wrap64 ((dep:Int)+1 - ((e+1:Nat):Int))=((dep - e:Nat):Int):=zfE
def anC(h5:dep<=8):wrap64 (dep:Int)=dep:=vW
def anA(h:x+s<=n)(h2:n<=256):(s:Int)<=18446744073709551615:=Mx
def ag4(h:f<x+s)(h2:x+s<=n)(h3:n<=256):(f:Int)<n/\f<n/\wrap64 ((f:Int)+1)=(f:Int)+1:=vW
def nT(w:Wo)(dep:Nat)(ae:List (Nat×Int))(hs:eQ dep ae)(v:Va)(hv:Ns w w .u16 v (expand ae))(j i e:Nat)(s:Nat×Int)(lA:ae[j]? =some s)(hi:i<s.1)(he:s.1=2^e):
  Calls prog 68 #[.agg #[io dep,v],ac (aC ae j+i:Nat)] w λe' w' =>e' = .returned (.tuple #[ac (aC ae j),ac (dep - e:Nat)])/\ci w w' :=by
 obtain⟨A,c,rfl,-,-⟩:=hv.form;have⟨n,hn⟩:=eX ((expand ae).length);have⟨x,hx⟩:=eX (aC ae j);have⟨k,hk⟩:=eX (x+i);have hle:=fH ae (j+1);rw[bH ae j s lA,<-hx,<-hn] at hle;have xG:n<=256:=hn▸hs.len;have cH:k<n:=Mx;obtain⟨b,o,c',mQ,-,-,hb,aH⟩:=hv.cells Mx;rw[<-hn] at mQ aH hv|-;obtain rfl:A=some (an b o):=zcr;have iO:∀q,x<=q->q<x+s.1->w.cell? (an b (o+q))=some (pK s.2):=λq h1 h2=>by have h3:=eh ae j s lA (q - x) Mx;rw[<-hx,show x+(q - x)=q by omega] at h3;rw[aH q Mx,Qe,h3];rfl
 have hah:x=0\/∃y,w.cell? (an b (o+(x - 1)))=some (pK y)/\y≠s.2:=by
  obtain h1|⟨y,h1,h2⟩:=hs.ahead lA
  .exact .inl (hx.trans h1)
  .rw[<-hx] at h1;refine .inr ⟨y,?_,h2⟩;rw[aH (x - 1) Mx,Qe,h1];rfl
 have fu:x+s.1=n\/∃y,w.cell? (an b (o+(x+s.1)))=some (pK y)/\y≠s.2:=by
  obtain h1|⟨y,h1,h2⟩:=hs.next lA
  .rw[<-hx,<-hn] at h1;exact .inl h1
  .rw[<-hx] at h1;refine .inr ⟨y,?_,h2⟩;rw[aH (x+s.1) (by rw[hn];exact(Ql.1 h1).1),Qe,h1];rfl
 have⟨W0,aY⟩:=eX (w.alloc (.cells #[io dep,el b o n c] 66));have X0:Af (aq W0 w 66 (zgh dep (el b o n c))):=zaL;have B0:Af (ci w W0):=aY▸(aF _ _);have fD:=aa aY.symm;obtain⟨e',agL,aa8,-⟩:=hs.two j s lA;have hee:e=e' :=by rw[he] at aa8;exact(Nat.pow_right_inj Fd).1 aa8
 have iu:=hI7 (by omega:x<=k) (by omega:k<x+s.1) hle xG (by rw[hee];exact agL:e<=dep) hs.d8 he;obtain⟨i0,i1,nZ,-,-⟩:=acq hk cH xG (Qg n);rw[<-hx,<-hk];clear hv mQ aH aY lA hi he hs hn hk hle hee agL aa8 xG cH hx;change Af _ at iO hah fu hb;go_in;go_upto_region 1 with fail;rw[fD.o];go_upto_block 0 with fail;go_cut [6] from 8 to 59 (λv6 W=>v6= ac x/\Af (ci W0 W))
 .go_wp2;go_loopw [6] (λfv wr=>∃f:Nat,fv= ac f/\Af (x<=f/\f<=k/\ci W0 wr)) (λfv _=>(intOf fv).toNat)
  .exact⟨k,rfl,iu.p1,go,pi⟩
  .obtain⟨f,rfl,HR⟩:=hrel;have d1:wr.cell? (an w.heap.size 1)=some (el b o n c):=(X0.o.on HR.q2).cell rfl;have Ed:∀q,wr.cell? (an b (o+q))=w.cell? (an b (o+q)):=λq=>(Pd B0.o HR.q2).cell (p:=an b (o+q)) hb.o;have jV:=(Ed k).trans (iO.o k iu.p1 iu.p2);cases f with
   |zero=>
    have gd:=Nat.le_zero.1 HR.p1;have HB:=aa HR.q2;clear HR Ed jV;rw[show((0:Nat):Int)=(0:Int) from rfl];go_wp2;go_quiet (fail);go_wp2;go_meet;exact⟨by rw[gd];rfl,below_drewN HB.o _⟩
   |succ g=>
    obtain⟨g0,g1,avJ,hwg⟩:=anB HR.p2 iu.p2 iu.p3 iu.p4;have HRh:=aa HR.o;by_cases JE:x<=g
    .have MH:=(Ed g).trans (iO.o g JE (Qfg (Qn (XL g) HR.p2) iu.p2));have Ue:=aa JE;clear HR Ed JE;go_wp2;go_quiet (fail);go_wp2;go_roundw
     .exact⟨g,by rw[hwg],Ue.o,Qhe HRh.p2,below_drewN HRh.q2 _⟩
     .rw[hwg];exact ab1 g
    .have pf:=QE HR.p1 (Qdd JE);have hy:∃y,w.cell? (an b (o+g))=some (pK y)/\y≠s.2:=by
      obtain h1|h1:=hah.o
      .rw[pf] at h1;exact absurd h1 (Nat.succ_ne_zero g)
      .rw[pf,Nat.add_sub_cancel] at h1;exact h1
     obtain⟨y,Tr,hy2⟩:=hy;have MH:=(Ed g).trans Tr;have Io:=Xc hy2;have Hxe:=aa pf;clear HR Ed JE pf Tr hy2;go_wp2;go_quiet (fail);go_wp2;go_meet;exact⟨by rw[Hxe.o],below_drewN HRh.q2 _⟩
 .obtain⟨rfl,wP⟩:=hcut;go_wp2;rw[nZ];go_loopw [7] (λtv wr=>∃f:Nat,tv= ac f/\Af (k<f/\f<=x+s.1/\ci W0 wr)) (λtv _=>n - (intOf tv).toNat)
  .exact⟨k+1,by first|rfl|(rw[nZ];rfl),XL k,iu.p2,wP.o⟩
  .obtain⟨f,rfl,HR⟩:=hrel;have d1:wr.cell? (an w.heap.size 1)=some (el b o n c):=(X0.o.on HR.q2).cell rfl;have Ed:∀q,wr.cell? (an b (o+q))=w.cell? (an b (o+q)):=λq=>(Pd B0.o HR.q2).cell (p:=an b (o+q)) hb.o;have jV:=(Ed k).trans (iO.o k iu.p1 iu.p2);have f0:=Xh f;have HRh:=aa HR.o;by_cases hf:f<x+s.1
   .obtain⟨k1,k1n,hwf⟩:=ag4 hf iu.p3 iu.p4;have SP:=(Ed f).trans (iO.o f (QX (QO iu.p1 HR.p1)) hf);have Hf:=aa hf;have Hk1:=aa k1n;clear HR Ed hf;go_wp2;go_quiet (fail);go_wp2;go_roundw
    .exact⟨f+1,by first|rfl|(rw[hwf];rfl),Nat.lt_succ_of_lt HRh.p1,Hf.o,below_drewN HRh.q2 _⟩
    .first|exact al Hk1.o|(rw[hwf];exact al Hk1.o)
   .have hfe:=QE HR.p2 (QC hf);have Hfe:=aa hfe;obtain⟨am7,hwu,JO,TH⟩:=acr (dep:=dep) (e:=e) hfe iu.p3 iu.p4 iu.p5 iu.p6;have TI:=anC iu.p6;have⟨E,hE⟩:=eX (e+1);have⟨D,hD⟩:=eX (dep - e);have⟨S,hS⟩:=eX s.1;have HE:∀(W:Wo) q,Calls prog 66 #[ip s.1] (W.drewN q) λe' DW =>e' = .returned (ac (e+1:Nat))/\∃m,DW =W.drewN m:=λW q=>Qec ((Tryz.bits_Len s.1 (W.drewN q) (Xh _) (anA iu.p3 iu.p4)).mono λe' w' h=>by rw[Xt,iu.q6,vX e (Qh iu.p5 iu.p6)] at h;exact⟨h.1,h.2⟩);have d0:wr.cell? w=some (io dep):=(X0.o.on HR.q2).cell rfl;rw[<-hE] at HE TH;rw[<-hS] at HE am7 hwu;rw[<-hD] at TH;obtain⟨HE,HD,B2⟩:=qC HE hD (Pd B0.o HR.q2);have nx:(f=n)\/∃y,wr.cell? (an b (o+f))=some (pK y)/\(y==s.2)=false:=by
     obtain h1|⟨y,h1,h2⟩:=fu.o
     .exact .inl (hfe.trans h1)
     .exact .inr ⟨y,(Ed f).trans (hfe▸h1),Xc h2⟩
    obtain h1|⟨y,h1,h2⟩:=nx
    .have Nj:¬f<n:=(by rw[h1];exact XI n);clear HR Ed hf hfe h1 hE hD hS;go_wp2;go_quiet (fail);go_wp2;have⟨W2,cE⟩:=eX (wr.drewN nq);have C2:Af (ci w W2):=cE▸(below_drewN B2.o _);have d02:W2.cell? w=some (io dep):=cE▸d0;exact zdY
    .clear HR Ed hf hfe hE hD hS;by_cases Nj:f<n
     .go_wp2;go_quiet (fail);go_wp2;have⟨W2,cE⟩:=eX (wr.drewN nq);have C2:Af (ci w W2):=cE▸(below_drewN B2.o _);have d02:W2.cell? w=some (io dep):=cE▸d0;exact zdY
     .clear h1 h2;go_wp2;go_quiet (fail);go_wp2;have⟨W2,cE⟩:=eX (wr.drewN nq);have C2:Af (ci w W2):=(by rw[cE];exact below_drewN B2.o _);have d02:W2.cell? w=some (io dep):=cE▸d0;exact zdY
structure BW(s:aX)(dep:Nat)(ae:List (Nat×Int))(at_:Fr):Prop where
 oH:eQ dep ae
 np:(at_.length:Int)=aR (2^dep:Nat)
 rt:∀i,i<at_.length->s.root (3+i)=at_.getD i 0/\∃k:Nat,at_.getD i 0=k/\2<=k/\k<s.t.len/\pB 4 (s.read k)=some (bG (expand ae) i)
 no:∀i,at_.length<=i->i<5->s.root (3+i)=0
 deep:∃sg∈ae,sg.1=1
def BW.af6{s:aX}{dep:Nat}{ae:List (Nat×Int)}{at_:Fr}(h:BW s dep ae at_):1<=at_.length/\at_.length<=5:=by have h1:=h.np;have h2:=rz h.oH.d8;unfold aR at h1;rw[Xd Mx] at h1;omega
def yl(w:Wo)(I:bF)(s:aX)(h:cR w I s)(i:Nat)(hi:i<s.t.len):
  Calls prog 64 #[I.b,ac i] w λe w' =>∃v,e= .returned (.tuple #[v,ac 0])/\Bs w' w' v (s.read i)/\(∀b o n c,v= el b o n c->w<=b)/\ci w w' :=by
 have HR:=aa (KM w I s h i hi);clear h hi;go_in;go_wp2_with(go_at_call 129;refine HR.o.mono ?_;rintro e W2 ⟨v,rfl,h2,h3,h4⟩;obtain⟨H2,H3,H4⟩:=qC h2 h3 h4;clear h2 h3 h4);go_ret2;exact⟨v,rfl,H2.o,H3.o,H4.o⟩
def la(w:Wo)(I:bF)(s:aX)(h:cR w I s)(hb:s.broken=false):
  Calls prog 23 #[I.b] w (iF (ac 0) λw' =>w=w') :=by
 have HB:=aa (dI w I s h);have HK:=DT w I s h;rw[hb] at HK;have HK:=aa HK;have hn:=h.n0;have n0:((s.t.len:Int)==0)=false:=Xc Mx;generalize s.t.len=n at*;clear h hb hn;go_in;go_wp2_with(first
  |(go_at_call 20;refine PP HB.o ?_)
  |(go_at_call 72;refine PP HK.o ?_))
 exact vl
variable{j' np q:Nat}{x0 x1:Va}
def cR.FU{I:bF}{s:aX}(h:cR w I s)(hi:i<s.t.len):(s.read i).length=128/\∀x∈s.read i,aI x:=by
 unfold aX.read;cases hf:s.fresh.getD i none with
 |some data=>
  rw[Qe] at hf;cases hg:s.fresh[i]? with
  |none=>rw[hg] at hf;cases hf
  |some o=>
   rw[hg] at hf;simp at hf;subst hf;exact h.ok.fd data (Qi hg)
 |none=>
  have ub:i<s.bl.length:=h.ok.bl▸hi;rw[Option.getD_none,Qe,Qf ub];exact⟨h.dM.size _ (QI _),h.dM.byte _ (QI _)⟩
def iT{b' e e' s s' n' :Nat}{v v' :Va}{xs VY :Ox}(h:w.ownsRow b e s v n xs)(k:w.ownsRow b' e' s' v' n' VY)(he:e≠e'):v.ownBlock=none\/v.ownBlock≠v'.ownBlock:=by
 rcases h.2 with⟨rfl,_⟩|⟨g,cap,cur,rfl,_,h1,_⟩
 .exact .inl rfl
 .refine .inr λe1=> ?_;rcases k.2 with⟨rfl,_⟩|⟨g',rr,anw,rfl,_,h2,_⟩
  .cases e1
  .cases e1;rw[h1] at h2;injection h2 with h2;injection h2 with _ h3;exact he h3
def anv{k:Int}(hk:k=4\/k=5){p l:Fr}(hb:∀x∈p,aI x)(hd:pB k p=some l)(W:Wo)(v:Va)(hv:Bs W W v p):Calls prog 65 #[io k,v] W λe w' =>∃v',e= .returned (.tuple #[v',ac 0])/\aB w' W 30 .u16 v' l/\ci W w' :=
 (Js W k hk v p hv (vS hd hb).2.2).mono λe w' ⟨hb,h1⟩=>(by
  rcases h1 with⟨h2,-⟩|⟨l',v',h2,h3,h4⟩
  .rw[hd] at h2;cases h2
  .rw[hd] at h2;cases h2;exact⟨v',h3,h4,hb⟩)
structure abr(w:Wo)(ae:List (Nat×Int))(at_:Fr)(rb db:Nat)(av:Va)(q:Nat)(wr:Wo):Prop where
 le:q<=5
 res:aq wr rb 66 (zgh 0 ())
 dir:∃A n c,aq wr db 66 (zgh 0 (.slice A n c))/\aB wr w 30 .u16 (.slice A n c) ((expand ae).take (61*q))
 at_:aB wr w 3 .i64 av (at_.take q)
 low:Below w w wr
def Pg(hq:q<5):(3:Int)+q<8/\(0:Int)<=3+(q:Int)/\wrap64 ((3:Int)+q+1)=3+(q:Int)+1/\wrap64 (q:Int)=q/\3+q<8:=vW
def zK(h:q<5):8 - (intOf (ac (3+(q:Int)+1))).toNat<8 - (intOf (ac (3+(q:Int)))).toNat:=zaK
def Vj(h:(np:Int)=aR n)(hq:q<np):61*q<n:=zfi
def abT(h:(np:Int)=aR n)(hq:np<=q):n<=61*q:=zfi
def abS{N dep:Nat}(h:N=2^dep)(h2:N<=256)(h3:dep<=8):(0:Int)<N/\wrap64 (((dep+1:Nat):Int) - 1)=dep/\IntKind.u8.wrap (dep:Int)=dep/\IntKind.u64.wrap (N:Int)=N/\(N:Int)<=18446744073709551615:=by have:0<N:=h▸(Qba dep);clear h;exact zfE
def ve(h:aq w b 66 [x0,x1]):(loadVar 66 (ol b)).run prog w= .ok (.agg #[x0,x1]) w:=by have hl:=Qay (P:=prog) w (ol b) [x0,x1] (λj v hj=>zaG);simp only[QF,Xq,QR,Nat.reduceAdd] at hl;have h2:(isAgg 66).run prog w= .ok true w:=KJ;have h3:(sizeOf 66).run prog w= .ok 2 w:=KJ;exact zfH
def OB{g:Nat}{e:Fy}(h:aq w g e [x0,x1])(y0 y1:Va):aq ((w.setCell (ol g) y0).setCell (an g 1) y1) g e [y0,y1]:=(h.set 0 y0).set 1 y1
def U5(m:Nat)(h:m<=8):wrap64 (m:Int)=m:=vW
def Rt(m D:Nat):max (m:Int) (D:Int)=((max m D:Nat):Int):=Mx
def me(ae:List (Nat×Int))(h:j<=j'):aC ae j<=aC ae j' :=by obtain⟨d,rfl⟩:=Qja h;unfold aC;rw[Qjb,QL,Qhy];exact XM _ _
def PO{ae:List (Nat×Int)}{i' :Nat}{s s' :Nat×Int}(hj:ae[j]? =some s)(Eg :ae[j']? =some s')(hi:i<s.1)(hi' :i' <s'.1)(h:aC ae j+i=aC ae j' +i'):j=j' :=by
 obtain h1|h1|h1:=Qbt j j'
 .have h2:=me ae h1;rw[bH ae j s hj] at h2;omega
 .exact h1
 .have h2:=me ae h1;rw[bH ae j' s' Eg] at h2;omega
def KX(L:Fr)(q:Nat):L.take (61*(q+1))=L.take (61*q)++bG L q:=by rw[bG,show 61*(q+1)=61*q+61 by omega,Qjb]
def oz(w:Wo)(I:bF)(s:aX)(h:cR w I s)(dep:Nat)(ae:List (Nat×Int))(at_:Fr)(hd:BW s dep ae at_):
  Calls prog 21 #[I.b] w λe w' =>∃v av,e= .returned (.tuple #[.agg #[io dep,v],av,ac 0])/\aB w' w 30 .u16 v (expand ae)/\aB w' w 3 .i64 av at_/\ci w w' :=by
 obtain⟨W0,aY,-,b0⟩:=nW w [io 0,()] 66;obtain⟨W1,aW⟩:∃y,y=W0.alloc (.cells #[io 0,()] 66):=⟨_,rfl⟩;have r0:aq W0 w 66 (zgh 0 ()):=by rw[aY];exact ar w [_,_] _
 have b1:ci W0 W1:=zab;obtain⟨db,iU⟩:∃z,z=W0.heap.size:=⟨_,rfl⟩;have d1:aq W1 db 66 (zgh 0 ()):=by rw[aW,iU];exact ar W0 [_,_] _
 have Hdb:Af (w.heap.size<db):=by show _<_;rw[iU];exact r0.lt
 have WL:=Pd b0 b1;have rj:Af (abr w ae at_ w db () 0 W1):=⟨Fd,r0.on b1,⟨none,0,0,d1,cQ _ _ _ _⟩,cQ _ _ _ _,WL⟩;have fD:=aa aY.symm;have gB:=aa aW.symm;have H:=aa h;have HD:=aa hd;have HB:=aa (λ(W:Wo) (hW:ci w W)=>dI W I s (h.on hW));have n0:((s.t.len:Int)==0)=false:=Xc (by have:=h.n0;omega);have HR:=aa (λ(W:Wo) (hW:ci w W) (i:Nat) (hi:i<8)=>ot W I s (h.on hW) i hi);have MJ:=HB.o W1 WL;have Yd:=aa MJ;have Bw:=aa iU.symm;clear h hd aY aW r0 b0 b1 iU d1 WL MJ;go_in;go_upto_region 1 with fail;change Code.wp _ _ _ _ (w.alloc (.cells #[io 0,()] 66));rw[fD.o];go_upto_region 2 with fail;change Code.wp _ _ _ _ (W0.alloc (.cells #[io 0,()] 66));rw[gB.o,Bw.o];clear fD gB Bw;go_wp2_with(go_at_call 20;refine Yd.o.mono ?_;rintro e W2 ⟨rfl,rfl⟩);clear n0 Yd;go_loopw [6,7] (λav i wr=>∃q:Nat,i= ac (3+(q:Int))/\Af (abr w ae at_ w db av q wr)) (λ_ i _=>8 - (intOf i).toNat)
 .exact⟨0,rfl,rj.o⟩
 .obtain⟨q,rfl,HS⟩:=hrel;obtain⟨Aa,na,ca,rfl⟩:=HS.o.at_.bu;by_cases hq:q<5
  .obtain⟨i8,i0,nZ,hwq,hi8⟩:=Pg hq;have Hwq:=aa hwq;have El:=aa nZ;have q5:(q:Int)<5:=(by omega);have q0:(0:Int)<=q:=Mx;clear hwq nZ;have mn:=aa (HR.o wr HS.o.low (3+q) hi8);rw[show((3+q:Nat):Int)=3+(q:Int) from rfl] at mn;have Hq:=aa hq;by_cases ei:q<at_.length
   .obtain⟨Wj,k,hk1,si,bQ,Ee⟩:=HD.o.rt q ei;rw[hk1] at Wj;rw[Wj] at mn;have SK:((k:Int)==0)=false:=Xc Mx;have EJ:=aa (yl wr I s (H.o.on HS.o.low) k bQ);have ft:=H.o.FU bQ;have HDc:=aa (λW v hv=>anv (.inl rfl) ft.2 Ee W v hv);obtain⟨Ad,nd,cd,iU,bN⟩:=HS.o.dir;have UD:=Vj HD.o.np ei;rw[<-HD.o.oH.sum] at UD;have hSl:((expand ae).take (61*q)).length=61*q:=(by rw[Qu];exact Zh (QX UD));have hAl:(at_.take q).length=q:=(by rw[Qu];exact Zh (QX ei));have im:nd=61*q:=(by obtain⟨A',c',e,-⟩:=bN.ns.form;rw[hSl] at e;injection e);have Ez:na=q:=(by obtain⟨A',c',e,-⟩:=HS.o.at_.ns.form;rw[hAl] at e;injection e);subst Ez;have hL:Int.tmod (nd:Int) 61=0:=(by rw[im,show(61:Int)=((61:Nat):Int) from rfl,<-Qiq,Qhd];rfl);have hak:at_[na]? =some (k:Int):=(by rw[Qf ei,<-hk1,Qe,Qf ei];rfl);have tH:=aa (aA at_ na _ hak);have Hpt:=aa (KX (expand ae) na);have lD:Af (((expand ae).take (61*na)).length+(bG (expand ae) na).length<=1000000/\(at_.take na).length<=100000):=by refine⟨?_,by rw[hAl];exact Qh (QX hq) Fd⟩;rw[hSl];exact Qh (Qcf (Qh (QX UD) HD.o.oH.len) (yk _ _)) Fd
    have HO:=aa bN;have Ye:=aa HS.o.at_;have HDb:=aa iU;have WU:=aa HS.o.res;have HL:=aa HS.o.low;clear Wj hk1 si bQ Ee ft bN iU UD hSl hAl im hak ei hq HS;go_upto_region 14 with(first
     |(go_at_call 55;refine mn.o.mono ?_;rintro e W2 ⟨rfl,rfl⟩)
     |(go_at_call 64;refine EJ.o.mono ?_;rintro e W2 ⟨pv,rfl,p2,p3,b2⟩;obtain⟨Ap,cp,rfl,-,-⟩:=p2.1.form;have B2:=aa b2;have HDd:=aa (HDc.o W2 _ p2);clear p2 p3 b2)
     |(go_at_call 65;refine HDd.o.mono ?_;rintro e W3 ⟨lv,rfl,o3,b3⟩;obtain⟨Al,nl,cl,rfl⟩:=o3.bu;have O3:=aa o3;have B3:=aa (Pd B2.o b3);clear o3 b3))
    have D3:=aa (HDb.o.on B3.o);have z1:=D3.o.j1;have f1:=D3.o.free 1;have O3n:=aa O3.o.ns;have NM:=aa (HO.o.on B3.o);have Xk:=aa (Pd HL.o B3.o);have aho:=aa (Ye.o.on B3.o);have IC:=aa (WU.o.on B3.o);have hwq:=Hwq.o;have he3:((3:Int)+(na:Int) - 3)=na:=Mx
    clear HDc EJ mn HDd i8 i0 hi8;go_wp2_with(first
     |(at_builtin;(with_reducible refine wl_appNs NKw (os:= .tmp 62) (ox:= .tmp 63) w _ _ NM.o _ _ O3n.o ?_ ?_ ?_ ?_ ?_);(·exact lD.p1);(·exact Xk.o.size);(·rfl);(·rfl);intro v5 W5 o5 g5;obtain⟨A5,n5,c5,rfl⟩:=o5.bu;have O5:=aa (o5.on (aF W5 (.cells #[ac k] 3)));have L5:=aa ((Xk.o.grown g5 Xk.o.size (λj e=>(Xr NM.o j e).1)).trans ((aF W5 (.cells #[ac k] 3)).mono (Qh Xk.o.size g5.size)));have At5:=aa (aB.on (Qac aho.o g5 (iT aho.o NM.o Fd)) (aF W5 (.cells #[ac k] 3)));have D5:=aa ((D3.o.grown g5 (λe=>aq.not_row D3.o Fd NM.o e.symm)).on (aF W5 (.cells #[ac k] 3)));have R5:=aa ((IC.o.grown g5 (λe=>aq.not_row IC.o Fd NM.o e.symm)).on (aF W5 (.cells #[ac k] 3)));have X5:=aa (ar W5 [ac k] 3);clear o5 g5)
     |(at_builtin;(with_reducible refine wl_app1 NKi (os:= .tmp 65) (ox:= .tmp 67) w _ _ At5.o W5 k X5.o ?_ ?_ ?_ ?_ ?_);(·exact lD.q1);(·exact L5.o.size);(·rfl);(·rfl);intro v6 W6 o6 g6;obtain⟨A6,n6,c6,rfl⟩:=o6.bu;have O6:=aa o6;have L6:=aa (L5.o.grown g6 L5.o.size (λj e=>(Xr At5.o j e).1));have S6:=aa (Qac O5.o g6 (iT O5.o At5.o Fd));have D6:=aa (D5.o.grown g6 (λe=>aq.not_row D5.o Fd At5.o e.symm));have R6:=aa (R5.o.grown g6 (λe=>aq.not_row R5.o Fd At5.o e.symm));have y6:=D6.o.j1;have f6:=D6.o.free 1;clear o6 g6))
    have hw:=QX Hdb.o;have bT:=XP Hdb.o;refine⟨⟨na+1,zcj,⟨Hq.o,R6.o.az (p:=an db 1) bT _,⟨A5,n5,c5,D6.o.set 1 _,?_⟩,?_,L6.o.setCell (p:=an db 1) hw _⟩⟩,zK Hq.o⟩
    .rw[Hpt.o];exact aB.aT (T:=66) (nb:=db) S6.o D6.o Fd 1 _
    .rw[tH.o];exact aB.aT (T:=66) (nb:=db) O6.o D6.o Fd 1 _
   .have hr0:=HD.o.no q (QC ei) hq;rw[hr0] at mn;have bm:(expand ae).take (61*(q+1))=(expand ae).take (61*q):=(by have h1:=abT HD.o.np (QC ei);rw[<-HD.o.oH.sum] at h1;rw[Qj h1,Qj (Qh h1 (Qex 61 (Q0 q)))]);have BP:at_.take (q+1)=at_.take q:=(by rw[Qj (QC ei),Qj (Qh (QC ei) (Q0 q))]);have j2:Af (abr w ae at_ w db (am Aa na ca) (q+1) wr):=⟨hq,HS.o.res,by rw[bm];exact HS.o.dir,by rw[BP];exact HS.o.at_,HS.o.low⟩;clear hr0 bm BP ei hq HS i0 hi8;go_wp2_with(go_at_call 55;refine mn.o.mono ?_;rintro e W2 ⟨rfl,rfl⟩);exact⟨⟨q+1,zcj,j2.o⟩,zK Hq.o⟩
  .have hq5:=QE HS.o.le (QC hq);subst hq5;rw[show(3:Int)+((5:Nat):Int)=8 from rfl];obtain⟨Ad,nd,cd,iU,bN⟩:=HS.o.dir;have bm:(expand ae).take (61*5)=expand ae:=Qj (Qh HD.o.oH.len Fd);have BP:=Qj HD.o.af6.2;have kJ:=HS.o.at_;rw[bm] at bN;rw[BP] at kJ;have im:nd=(expand ae).length:=(by obtain⟨A',c',e,-⟩:=bN.ns.form;injection e);have Ez:na=at_.length:=(by obtain⟨A',c',e,-⟩:=kJ.ns.form;injection e);have hN:=im.trans HD.o.oH.sum;have J4:nd<=256:=(by rw[im];exact HD.o.oH.len);have d8:=HD.o.oH.d8;obtain⟨N0,hE1,hu8,hu,hE0⟩:=abS (N:=nd) (dep:=dep) hN J4 d8;have HLn:Af (∀W,Calls prog 66 #[ip nd] W (iF (ac (dep+1:Nat)) λw' =>W=w')):=λW=>(Tryz.bits_Len nd W (Xh _) hE0).mono λe w' h=>(by rw[Xt,hN,vX dep d8] at h;exact⟨h.1,h.2.symm⟩);have⟨E,hE⟩:=eX (dep+1);rw[<-hE] at HLn hE1;have EJ:Af (∀W,Calls prog 30 #[ac nd] W (iF (ac na) λw' =>W=w')):=λW=>(by have h1:=dY W nd (Xh _) Mx;rw[hN,<-HD.o.np,<-Ez,<-hN] at h1;exact h1);have Hnd:=iJ im Ez J4;have z1:=iU.j1;have z0:=iU.j0;have f0:=iU.free 0;have HDb:=aa iU;have HO:=aa bN;have Ye:=aa kJ;have WU:=aa HS.o.res;have HL:=aa HS.o.low;clear iU bN kJ bm BP im Ez hN J4 d8 hE0 hq HS hE;go_upto_region 19 with(go_at_call 66;refine(HLn.o _).mono ?_;rintro e W2 ⟨rfl,rfl⟩)
   have D7:aq (wr.setCell (ol db) (io dep)) db 66 (zgh dep (am Ad nd cd)):=HDb.o.set 0 _;have O7:aB (wr.setCell (ol db) (io dep)) w 30 .u16 (am Ad nd cd) (expand ae):=aB.aT (T:=66) (nb:=db) HO.o HDb.o Fd 0 _;have A7:aB (wr.setCell (ol db) (io dep)) w 3 .i64 (am Aa na ca) at_:=aB.aT (T:=66) (nb:=db) Ye.o HDb.o Fd 0 _;have R7:aq (wr.setCell (ol db) (io dep)) w 66 (zgh 0 ()):=WU.o.az (p:=ol db) (XP Hdb.o) _;have L7:ci w (wr.setCell (ol db) (io dep)):=HL.o.setCell (p:=ol db) (QX Hdb.o) _;have⟨W7,Eh⟩:=eX (wr.setCell (ol db) (io dep));rw[<-Eh] at D7 O7 A7 R7 L7|-;have HRi:=aa (vD W7 dep ae HD.o.oH (am Ad nd cd) O7.ns);obtain⟨y0,y1⟩:=gh D7;have D7:=aa D7;have O7:=aa O7;have A7:=aa A7;have R7:=aa R7;have L7:=aa L7;clear Eh z0 z1 f0 HDb HO Ye WU HL HLn hE1 hu8 hu;go_upto_region 21 with(first
    |(go_at_call 67;refine HRi.o.mono ?_;rintro e W8 ⟨rfl,b8⟩;have B8:=aa b8;have y8:=(D7.o.on b8).j1;clear b8)
    |(go_at_call 30;refine(EJ.o _).mono ?_;rintro e W9 ⟨rfl,rfl⟩))
   have D8:=aa (D7.o.on B8.o);have O8:=aa (O7.o.on B8.o);have A8:=aa (A7.o.on B8.o);have R8:=aa (R7.o.on B8.o);have L8:=aa (Pd L7.o B8.o);obtain⟨sg,Ay,aaV⟩:=HD.o.deep;obtain⟨j1,hj1⟩:=Qab Ay;have⟨x1,xx⟩:=eX (aC ae j1);have Hj1:Af (ae[j1]? =some sg/\sg.1=1/\x1=aC ae j1/\x1<nd):=⟨hj1,aaV,xx,by have h1:=bH ae j1 sg hj1;have h2:=fH ae (j1+1);rw[h1,aaV,<-xx,<-Hnd.p1] at h2;exact h2⟩;have ar0:(nd:Int)<=256:=(by have:=Hnd.q2;omega);clear D7 O7 A7 R7 L7 y0 y1 HRi EJ Ay aaV hj1 xx;go_wp2_with fail;go_loopw [98,12] (λiv mv wr=>∃k m:Nat,iv= ac k/\mv= ac m/\Af (k<=nd/\m<=dep/\(x1<k->m=dep)/\ci W8 wr)) (λiv _ _=>nd - (intOf iv).toNat)
   .exact⟨0,0,rfl,rfl,lm,lm,λh=>absurd h (Qew _),pi⟩
   .obtain⟨k,m,rfl,rfl,HR⟩:=hrel;by_cases hk:k<nd
    .obtain⟨j,sj,i,hj,hi,AA⟩:=lo ae k (by rw[<-Hnd.p1];exact hk);obtain⟨e,he1,ZY,-⟩:=HD.o.oH.two j sj hj;have hO:=(O8.o.on HR.q3).ns;have uo:=nT wr dep ae HD.o.oH (am Ad nd cd) hO j i e sj hj hi ZY;rw[<-AA] at uo;have⟨D,hD⟩:=eX (dep - e);have⟨X,hX⟩:=eX (aC ae j);rw[<-hD,<-hX] at uo;have uo:=aa uo;have hdm:x1<k+1->max m D=dep:=λh1=>by
      obtain h2|h2:=Qae x1 k
      .rw[HR.p3 h2,hD];exact Nat.max_eq_left (Qfm _ _)
      .have h3:aC ae j+i=aC ae j1+0:=(by rw[<-AA,XC,<-Hj1.p3];exact QE h2 (Nat.le_of_lt_succ h1));have h4:=PO hj Hj1.p1 hi (by rw[Hj1.p2];decide) h3;subst h4;have h5:=Qr (hj.symm.trans Hj1.p1);have h6:e=0:=(by rw[h5,Hj1.p2] at ZY;exact(Nat.pow_right_inj (XL 1)).1 (by rw[<-ZY]));rw[hD,h6];exact Nat.max_eq_right HR.p2
     have Kh:Af (max m D<=dep/\(x1<k+1->max m D=dep)):=⟨Nat.max_le.2 ⟨HR.p2,by rw[hD];exact Qfm _ _⟩,hdm⟩;have d9:=D8.o.on HR.q3;obtain⟨y0,y1⟩:=gh d9;have NN:=aa HR.q3;obtain⟨k1,k1n,hwk⟩:=ag4 (x:=0) (s:=nd) (n:=nd) (by rw[QR];exact hk) (Xg (QR nd)) Hnd.q2;have k0:=Xh k;have Hk:=aa hk;have Hwk:=aa hwk;clear hj hi AA he1 ZY hO hD hX hdm d9 k1n HR hk;go_wp2_with(go_at_call 68;refine uo.o.mono ?_;rintro e' W9 ⟨rfl,b9⟩;have B9:=aa b9;clear b9);refine⟨⟨k+1,max m D,rfl,by rw[Rt],Hk.o,Kh.p1,Kh.q1,Pd NN.o B9.o⟩,?_⟩;exact al Hk.o
    .have cH:=QE HR.p1 (QC hk);subst cH;have hm:=HR.p3 Hj1.q3;subst hm;have d9:=D8.o.on HR.q3;obtain⟨y0,y1⟩:=gh d9;have NN:=aa HR.q3;have r9:=R8.o.on HR.q3;obtain⟨q0,q1⟩:=gh r9;obtain⟨g0,g1⟩:=fR2 r9;have R9:=aa r9;have S9:=aa (O8.o.on HR.q3);have A9:=aa (A8.o.on HR.q3);have L9:=aa (Pd L8.o HR.q3);have hwm:=U5 m HD.o.oH.d8;clear HR hk d9 r9;go_wp2_with fail;refine Qar (jR rfl rfl (ve (OB R9.o _ _))) rfl ?_;refine⟨_,_,rfl,?_,?_,?_⟩
     .exact aB.aT (T:=66) (aB.aT (T:=66) S9.o R9.o Fd 0 _) (R9.o.set 0 _) Fd 1 _
     .exact aB.aT (T:=66) (aB.aT (T:=66) A9.o R9.o Fd 0 _) (R9.o.set 0 _) Fd 1 _
     .exact(L9.o.setCell (p:=ol w) go _).setCell (p:=an w.heap.size 1) go _
end
section
open Go.Maps (Keyed)
variable {q r : IntKind}
def anD{α:Type}(cs:Array α)(h:cs.size=2):∃x y,cs= #[x,y]:=by
 obtain⟨L⟩:=cs
 match L,h with
 |[x,y],_=>exact⟨x,y,rfl⟩
section
variable {P : Program}{k t u : TypeId}
structure lH(P:ST)(k:Fy)(q r:IntKind):Prop where
 ex:∃(t u:Fy) (f g:Field),P.underlying k=some (.struct #[f,g])/\f.type=t/\g.type=u/\f.offset=0/\g.offset=1/\(f.name !="_")=true/\(g.name !="_")=true/\P.underlying t=some (.int q)/\P.underlying u=some (.int r)/\P.cellsOf t=1/\P.cellsOf u=1
 cells:P.cellsOf k=2
 key:P.keyType k=true
 row:k<P.types.size
def lH.lits(K:lH P k q r)(n:Nat)(x y:Va):P.keyLits (n+2) k [x,y]=match x,y with
  | .int q' a,.int r' b=>if(q' =q/\(Lit.int q a).wf=true)/\(r' =r/\(Lit.int r b).wf=true) then some [.int q a,.int r b] else none
  |_,_=>none:=by
 obtain⟨t,u,f,g,hk,rfl,rfl,hf,hg,Nj,hgn,ht,hu,ct,cu⟩:=K.ex;have e1:P.keyLits (n+1) f.type [x]=match x with| .int q' a=>if q' =q/\(Lit.int q a).wf=true then some [.int q a] else none|_=>none:=by
  unfold Program.keyLits;rw[ht]
  cases x<;>rfl
 have e2:P.keyLits (n+1) g.type [y]=match y with| .int q' a=>if q' =r/\(Lit.int r a).wf=true then some [.int r a] else none|_=>none:=by
  unfold Program.keyLits;rw[hu]
  cases y<;>rfl
 unfold Program.keyLits;rw[hk];simp only[K.cells,QF,Xq];have bm:(#[f,g].all λz=>z.name !="_")=true:=by simp[Nj,hgn]
 rw[Xo ⟨trivial,bm⟩];simp only[List.mapM_cons,List.mapM_nil,hf,hg,ct,cu,Zl,Zw,Zq,Zk,e1,e2]
 cases x<;>cases y<;>simp
 rename_i q' a r' b
 by_cases h1:q' =q/\(Lit.int q a).wf=true<;>by_cases h2:r' =r/\(Lit.int r b).wf=true<;>simp[h1,h2]
def lH.size(K:lH P k q r):∃n,P.types.size=n+1:=⟨P.types.size - 1,by have h:=K.row;exact(Nat.succ_pred_eq_of_pos (QO lm h)).symm⟩
def lH.keyOf(K:lH P k q r){a b:Int}(h:(Lit.int q a).wf=true/\(Lit.int r b).wf=true):Go.keyOf P k (.agg #[.int q a,.int r b])=some (.string (keyBytes [.int q a,.int r b])):=by
 obtain⟨n,hn⟩:=K.size;have h1:=K.lits n (.int q a) (.int r b);simp only[h.1,h.2,and_self,Qdx] at h1;obtain⟨t,u,f,g,hk,-⟩:=K.ex;have hf:(Value.agg #[.int q a,.int r b]).formed P k=true:=by simp[Value.formed,hk,K.cells]
 rw[Go.keyOf,hk];simp only[K.key,hf,Qgy,Qdx,hn];rw[show(Value.agg #[.int q a,.int r b]).cells.toList=[.int q a,.int r b] from rfl,h1];rfl
def lH.inv(K:lH P k q r){v:Va}{l:Lit}(h:Go.keyOf P k v=some l):∃a b,v= .agg #[.int q a,.int r b]/\(Lit.int q a).wf=true/\(Lit.int r b).wf=true:=by
 obtain⟨n,hn⟩:=K.size;obtain⟨t,u,f,g,hk,-⟩:=K.ex;unfold Go.keyOf at h;rw[hk] at h;simp only at h;split at h
 .rename_i hf0
  have hf:=(Bool.and_eq_true_iff.1 hf0).2;clear hf0;cases v<;>simp[Value.formed,hk,K.cells] at hf
  rename_i cs
  obtain⟨x,y,rfl⟩:∃x y,cs= #[x,y]:=anD cs hf;rw[show(Value.agg #[x,y]).cells.toList=[x,y] from rfl,hn,K.lits n x y] at h;cases x<;>cases y<;>first|(exfalso;simp at h;done)|skip
  rename_i q' a r' b
  by_cases hc:(q' =q/\(Lit.int q a).wf=true)/\(r' =r/\(Lit.int r b).wf=true)
  .obtain⟨⟨rfl,h1⟩,rfl,h2⟩:=hc;exact⟨_,_,rfl,h1,h2⟩
  .simp only[Xd hc] at h;cases h
 .cases h
end
def aaO:lH prog 29 .u64 .u32 where
 ex:=⟨_,_,_,_,underlying29,rfl,rfl,rfl,rfl,Fd,Fd,underlying26,underlying27,KJ,KJ⟩
 cells:=KJ
 key:=KJ
 row:=XQ KJ
def RD:laidOutB prog=true:=KJ
def af7:WideMaps.KeyLaw prog 29:=deep_law_laid RD (m:=2) (Nat.le_of_ble_eq_true rfl) aaO.row KJ (by rw[underlying29])
def kvE(e:aD):Va:= .agg #[.int .u64 e.print,.int .u32 e.block]
def WN:MK aD Int where
 mt:=236
 kt:=29
 vt:=3
 xz:=underlying236
 keyed:=Keyed.of_law af7
 kv:=kvE
 kl:=λe=> .string (keyBytes [.int .u64 e.print,.int .u32 e.block])
 qY:=λe=>(Lit.int .u64 e.print).wf=true/\(Lit.int .u32 e.block).wf=true
 ir:=λe h=>aaO.keyOf h
 Bn:=λx y h=>by cases x;cases y;simp[kvE] at h;simp[h]
 sB:=λv l h=>by obtain⟨a,b,rfl,h1,h2⟩:=aaO.inv h;exact⟨⟨a,b⟩,⟨h1,h2⟩,rfl⟩
 vv:= .int .i64
 Ix:=λy=> .lit (.int .i64 y)
 R:=RI .i64
 MZ:=IU .i64
 Bm:=zy .i64
 zo:=zz .i64
 zero:=0
 hz:=λw=>by kernel_rfl
end
def gQ{p:Int}(hp:bI p):0<=p/2^56/\p/2^56<256/\wrap64 (p/2^56)=p/2^56:=by obtain⟨l0,l1⟩:=I8 hp (Qg 8);have e:(64 - 8:Nat)=56:=rfl;rw[e] at l0 l1;generalize p/2^56=q at*;refine⟨l0,l1,?_⟩;exact vW
def lr(w:Wo)(p:Int)(hp:bI p):Calls prog 93 #[ip p] w (iF (ac (p/2^56)) λw' =>w=w') :=by have Hn:=aa (gQ hp);clear hp;go_in;go_wp2;go_ret;have h:=Hn.q2;rw[show(2:Int)^56=72057594037927936 from rfl] at h|-;rw[h];exact⟨rfl,rfl⟩
def bY(ax dep n:Nat):Bool:=(n ^^^ ax)/2^(8 - dep)==0
def VA{ax dep n:Nat}(hf:ax<256)(hn:n<256):(bits .xor .i64 n ax/2^(8 - dep)==0)=bY ax dep n:=by
 have h1:bits .xor .i64 (n:Int) (ax:Int)=((n ^^^ ax:Nat):Int):=by have hx:n ^^^ ax<2^8:=Nat.xor_lt_two_pow hn hf;have h1:(BitVec.ofInt 64 (n:Int)).toNat=n:=WF;have h2:(BitVec.ofInt 64 (ax:Int)).toNat=ax:=WF;show IntKind.i64.wrap ((BitVec.ofInt 64 (n:Int) ^^^ BitVec.ofInt 64 (ax:Int)).toNat:Int)=_;rw[BitVec.toNat_xor,h1,h2];generalize n ^^^ ax=z at*;exact zgf
 rw[bY,h1,XD,Qbq,Qbq];generalize n ^^^ ax=z;rw[show((2:Int)^(8 - dep))=((2^(8 - dep):Nat):Int) from(Qdn 2 (8 - dep)).symm,<-Qdw];exact Int.natCast_eq_zero
def tV(w:Wo)(ax dep n:Nat)(hf:ax<256)(hd:dep<=8)(hn:n<256)(bv sv:Va):Calls prog 92 #[.agg #[ac ax,ac dep,bv,sv],ac n] w (iF (.bool (bY ax dep n)) λw' =>ci w w') :=by obtain⟨W0,aY,X0,-⟩:=nW w [ac ax,ac dep,bv,sv] 72;have B0:Af (ci w W0):=aY▸(aF _ _);have fD:=aa aY.symm;obtain⟨x0,x1⟩:=gh X0;have Hx:Af ((bits .xor .i64 n ax/2^(8 - dep)==0)=bY ax dep n):=VA hf hn;clear aY X0;go_in;go_upto_region 1 with fail;rw[fD.o];go_wp2;go_ret;rw[Hx.o];exact⟨rfl,B0.o⟩
section
variable{B k:Nat}{w:Wo}{v:Va}{ps:List (ay × Va)}
structure ak where
 ax:Nat
 depth:Nat
 blocks:List Int
 ah:List ay
deriving DecidableEq
def sx(ax dep:Nat)(i:Nat)(st:List aD×Int)(e:aD):Option (List aD×Int):=
 if e∈st.1\/bY ax dep (e.print/2^56).toNat=false\/(0<i/\0<=st.2/\st.2≠e.print/2^56) then none
 else some (e::st.1,if 0<i then e.print/2^56 else st.2)
def iZ(ax dep:Nat)(i:Nat):List aD->List aD×Int->Option (List aD×Int)
 |[],st=>some st
 |e::r,st=>(sx ax dep i st e).bind (iZ ax dep i r)
def iA(ax dep:Nat):Nat->List ay->List aD×Int->Option (List aD×Int)
 |_,[],st=>some st
 |i,s::r,st=>if bC s=false\/(0<i/\s.es=[]) then none else(iZ ax dep i s.es st).bind (iA ax dep (i+1) r)
def dz(c:ak):Bool:=
 decide (c.ah≠[])&&decide (c.blocks.length=c.ah.length)&&decide (c.depth<=8)&&decide (c.ax<256)&&decide (c.ax%2^(8 - c.depth)=0)&&(iA c.ax c.depth 0 c.ah ([],-1)).isSome
def pO(ax dep i:Nat)(e:aD)(r:List aD)(st:List aD×Int):iZ ax dep i (e::r) st=(sx ax dep i st e).bind (iZ ax dep i r):=rfl
def lV(ax dep i:Nat)(s:ay)(r:List ay)(st:List aD×Int):iA ax dep i (s::r) st=if bC s=false\/(0<i/\s.es=[]) then none else(iZ ax dep i s.es st).bind (iA ax dep (i+1) r):=rfl
def zgi{α:Type}{l:List α}{x:α}(h:l[k]? =some x):l.drop k=x::l.drop (k+1):=by obtain⟨hk,rfl⟩:=Ql.1 h;exact Zd hk
def fV(p:ay×Va):List Va:=[.int .u8 p.1.depth,.int .u32 p.1.next,p.2]
def pC(s:ay):Prop:=aI s.depth/\bX s.next/\s.es.length<=9
def pH:∀(ps:List (ay×Va)) (k:Nat) (p:ay×Va),ps[k]? =some p->∀j,j<3->(ps.flatMap fV)[k*3+j]? =(fV p)[j]? :=by
 intro ps;induction ps with
 |nil=>intro k p h;simp at h
 |cons a r ih=>
  intro k p h j hj;cases k with
  |zero=>
   exact zeP
  |succ k=>
   have h1:=ih k p EQ j hj;rw[QH,QM (by show 3<=_;omega)];rw[<-h1];congr 1;show(k+1)*3+j - 3=k*3+j;omega
structure mP(w:Wo)(B:Nat)(v:Va)(ps:List (ay×Va)):Prop where
 sl:Sl w B 3 v ps.length (ps.flatMap fV)
 es:∀p∈ps,Es w B p.2 p.1.es/\pC p.1
def mP.below{w' :Wo}(h:mP w B v ps)(hb:Below B w w'):mP w' B v ps:=⟨h.sl.below hb,λp hp=>⟨(h.es p hp).1.below hb,(h.es p hp).2⟩⟩
def mP.more{B' :Nat}(h:mP w B v ps)(hB:B<=B'):mP w B' v ps:=⟨h.sl.more hB,λp hp=>⟨(h.es p hp).1.more hB,(h.es p hp).2⟩⟩
def mP.cells(h:mP w B v ps){p:ay×Va}(hk:ps[k]? =some p):
  ∃b o c,v= el b o ps.length c/\b<B/\jp w b (o+k*3) (io p.1.depth)/\jp w b (o+k*3+1) (gc p.1.next)/\jp w b (o+k*3+2) p.2:=by
 obtain⟨bQ,-⟩:=Ql.1 hk;obtain⟨b,o,c,rfl,-,-,hr⟩:=h.sl.row (QO lm bQ);refine⟨b,o,c,rfl,hr.1,?_,?_,?_⟩
 .exact hr.2 _ _ (by have:=pH ps k p hk 0 Fd;exact this)
 .rw[XB];exact hr.2 _ _ (by rw[pH ps k p hk 1 Fd];rfl)
 .rw[XB];exact hr.2 _ _ (by rw[pH ps k p hk 2 Fd];rfl)
structure Uq(w:Wo)(B:Nat)(v:Va)(c:ak):Prop where
 ex:∃bv sv ps,v= .agg #[.int .i64 c.ax,.int .i64 c.depth,bv,sv]/\Ns w B .i64 bv c.blocks/\mP w B sv ps/\ps.map Prod.fst=c.ah
def CJ{ax dep:Nat}(hd:dep<=8):wrap64 ((2:Int)^(8 - dep))=((2^(8 - dep):Nat):Int)/\(ax:Int).tmod ((2^(8 - dep):Nat):Int)=((ax%2^(8 - dep):Nat):Int)/\wrap64 (8 - (dep:Int))=((8 - dep:Nat):Int):=
 ⟨Cg (8 - dep) (Qfm _ _),(Qiq _ _).symm,vW⟩
end
section
open Go.Maps (Keyed)
open Go.WideElems Go.ChangeShapes Go.WideShapes Go.MapKept Go.ChangeMaps
variable {x : Int}
section
variable {K V : Type}[DecidableEq K]{M : MK K V}{w : Wo}{m s : Nat}{f : K -> Option V}
def MG.entry(KL:WideMaps.KeyLaw prog M.kt)(h:MG M w m f s)(hs:s<=100000){x:K}(hx:M.qY x):
  ∃(st:Nat) (w1:Wo),(Instr.mapEntry M.mt (.map (some m)) (M.kv x)).run prog w= .ok (.tuple #[M.vv ((f x).getD M.zero),goInt st]) w1/\w.grownBy w1 (some m)/\
   (∃f1 s1,MG M w1 m f1 s1/\(f1 x).getD M.zero=(f x).getD M.zero)/\
   ∀(w2:Wo) (y:V),w2.heap[m]? =w1.heap[m]?->∃w3,(Instr.entryStore M.mt (.map (some m)) (goInt st) (M.vv y)).run prog w2= .ok () w3/\MG M w3 m (eM f x y) (if(f x).isSome then s else s+1)/\w2.grownBy w3 (some m):=by
 have kJ:=h.at hx;have h0:=h;obtain⟨D,⟨es,clock,hb,F,hn,hD⟩,h2,h3⟩:=h;obtain⟨v0,st,es1,Fm,e1,e2,e3⟩:=entry_then_store KL M.xz M.hz hb F (M.ir x hx);obtain⟨wz,mM,xw,hz3⟩:=h0.store hs hx M.zero;have sF:v0=M.vv ((f x).getD M.zero)/\∃f1 s1,MG M (setBlock w m (.map es1 Fm)) m f1 s1/\(f1 x).getD M.zero=(f x).getD M.zero:=by
  rcases KL.find w (M.ir x hx) es.toList F.keys with⟨g1,g2⟩|⟨j,e0,g1,g2,g3⟩
  .have hl:(Instr.lookup M.mt (.map (some m)) (M.kv x) false).run prog w= .ok (M.vv M.zero) w:=(by simp[Instr.lookup,Qax M.xz,Qcl hb,KL.check w es.isEmpty (M.ir x hx),g1,M.hz]);have hm:(Instr.mapEntry M.mt (.map (some m)) (M.kv x)).run prog w= .ok (.tuple #[M.vv M.zero,goInt clock]) (setBlock w m (.map (es.push ⟨M.kv x,M.vv M.zero,clock⟩) (clock+1))):=(by simp[Instr.mapEntry,Qax M.xz,Qcl hb,KL.check w false (M.ir x hx),g1,M.hz,Qek _ hb,Result.andThen,setBlock]);have hu:(Instr.mapUpdate M.mt (.map (some m)) (M.kv x) (M.vv M.zero)).run prog w= .ok () (setBlock w m (.map (es.push ⟨M.kv x,M.vv M.zero,clock⟩) (clock+1))):=(by simp[Instr.mapUpdate,Qax M.xz,Qcl hb,KL.check w false (M.ir x hx),g1,Qek _ hb,Result.andThen,setBlock]);rw[kJ] at hl;rw[hm] at e1;rw[hu] at mM;injection hl with ME _;injection e1 with e1a e1b;injection mM with _ am0;injection e1a with e1a;have hv:M.vv M.zero=v0:=(by have:=XF (λa=>a[0]?) e1a;exact zdO);refine⟨by rw[<-hv,ME],eM f x M.zero,_,by rw[<-e1b,am0];exact xw,?_⟩;have:(f x).getD M.zero=M.zero:=(by have h5:=XF M.R ME;rw[M.MZ,M.MZ] at h5;exact M.zo _ _ (XF Prod.fst (Qr h5)));rw[this];simp[eM]
  .have hj:es[j]? =some e0:=(by simpa using g2);have BG:es.modify j (λe=>{e with key:=M.kv x})=es:=(by apply Qev;rw[Array.toList_modify,modify_eq_set _ _ _ _ g2];have:({e0 with key:=M.kv x}:MapEntry)=e0:=(by rw[<-g3]);rw[this];exact set_self _ _ _ g2);have hl:(Instr.lookup M.mt (.map (some m)) (M.kv x) false).run prog w= .ok e0.val w:=(by simp[Instr.lookup,Qax M.xz,Qcl hb,KL.check w es.isEmpty (M.ir x hx),g1]);have hm:(Instr.mapEntry M.mt (.map (some m)) (M.kv x)).run prog w= .ok (.tuple #[e0.val,goInt e0.born]) (setBlock w m (.map es clock)):=(by simp[Instr.mapEntry,Qax M.xz,Qcl hb,KL.check w false (M.ir x hx),g1,hj,g3,KL.stays w (M.ir x hx),BG,Qek _ hb,Result.andThen,setBlock]);rw[kJ] at hl;rw[hm] at e1;injection hl with ME _;injection e1 with e1a e1b;injection e1a with e1a;have hv:e0.val=v0:=(by have:=XF (λa=>a[0]?) e1a;exact zdO);refine⟨by rw[<-hv,ME],f,s,h0.aQ ?_,rfl⟩;rw[<-e1b,hb,heap_setBlock_same hb]
 obtain⟨rfl,Nk⟩:=sF;have uc:∀(W:Wo) (es0 oT :Array MapEntry) (c0 c' :Nat),W.heap[m]? =some (.map es0 c0)->W.grownBy (setBlock W m (.map oT c')) (some m):=λW es0 oT c0 c' hW=>⟨rfl,rfl,rfl,by simp[setBlock],λi _ hi=>heap_setBlock_other hW _ (λe=>hi zbl)⟩;refine⟨st,_,e1,uc w es es1 clock Fm hb,Nk,λw2 y fp=> ?_⟩;rw[heap_setBlock_same hb] at fp;obtain⟨oT,acm,q1,q2⟩:=e3 w2 (M.vv y) fp;obtain⟨wy,Tr,hy2,hy3⟩:=h0.store hs hx y;rw[q2] at Tr;injection Tr with _ Tr;refine⟨_,q1,hy2.aQ ?_,uc w2 es1 oT Fm acm fp⟩;rw[heap_setBlock_same fp,<-Tr,heap_setBlock_same hb]
end
section
variable {P : Program}{ops : Array Oper}{w w' : Wo}{Q : Exit -> Act -> Wo -> Prop}{a : Act}{dst : Option Tmp}{ty mt : TypeId}{pos : String}{after : Array Edge}{E : Prop}{K : Act -> Wo -> Prop}
end
def ahu(h:bI x):(Lit.int .u64 x).wf=true:=by unfold bI at h;exact zel
def ahv(h:bX x):(Lit.int .u32 x).wf=true:=by unfold bX at h;exact zel
def RA{w:Wo}{b o:Nat}{x y:Va}(h0:jp w b o x)(h1:jp w b (o+1) y):(Instr.loadAt 29 (ro b o)).run prog w= .ok (.agg #[x,y]) w:=by
 have hl:=Qay (P:=prog) w (an b o) [x,y] (λj v hj=>by
  rw[dP]
  match j,hj with
  |0,hj=>simp at hj;rw[<-hj];exact h0
  |1,hj=>simp at hj;rw[<-hj];exact h1
  |j+2,hj=>simp at hj)
 simp only[QF,Xq,QR,Nat.reduceAdd] at hl;have h2:(isAgg 29).run prog w= .ok true w:=KJ;have h3:(sizeOf 29).run prog w= .ok 2 w:=KJ;exact zeE
end
def gw(l:List aD):aD->Option Int:=λe=>if e∈l then some 1 else none
def Lg(l:List aD)(e:aD):eM (gw l) e 1=gw (e::l):=by funext z;unfold eM gw;by_cases h:z=e<;>simp[h]
def Pc{k:Nat}(h:k<=4096):wrap64 ((k:Int)+1)=(k:Int)+1/\k<=4096:=by refine⟨?_,h⟩;exact vW
structure UR(w:Wo)(c:ak)(xb mb rb:Nat)(bv sv:Va)(sc:Ox)(F:Option (List aD×Int))(k:Nat)(es:List aD)(j:Nat)(bh:Int)(seen:List aD)(wr:Wo):Prop where
 le:j<=es.length
 rest:F=(iZ c.ax c.depth k (es.drop j) (seen,bh)).bind (iA c.ax c.depth (k+1) (c.ah.drop (k+1)))
 map:MG WN wr mb (gw seen) seen.length
 box:aq wr xb 72 [.int .i64 c.ax,.int .i64 c.depth,bv,sv]
 OA:aq wr rb 79 sc
 y7:seen.length<=9*k+j
 bhs: -1<=bh/\bh<256
 low:Below w w wr
def tM{x y:Int}(h:wrap64 x=y):IntKind.i64.wrap x=y:=by unfold wrap64 at h;rw[XN];exact h
def Lh:gw []=λ_=>none:=by funext z;simp[gw]
structure abq(w:Wo)(c:ak)(xb mb:Nat)(bv sv:Va)(ps:List (ay×Va))(k:Nat)(bh:Int)(seen:List aD)(wr:Wo):Prop where
 le:k<=ps.length
 rest:iA c.ax c.depth 0 c.ah ([],-1)=iA c.ax c.depth k (c.ah.drop k) (seen,bh)
 map:MG WN wr mb (gw seen) seen.length
 box:aq wr xb 72 [.int .i64 c.ax,.int .i64 c.depth,bv,sv]
 y7:seen.length<=9*k
 bhs: -1<=bh/\bh<256
 low:Below w w wr
def Dm(w:Wo)(c:ak)(v:Va)(h:Uq w w v c)(hd:c.depth<=8)(hf:c.ax<256)(hm:c.ax%2^(8 - c.depth)=0)(hn:c.ah≠[])(hl:c.blocks.length=c.ah.length)(cC:c.ah.length<=4096):
  Calls prog 71 #[v] w (iF (.bool (iA c.ax c.depth 0 c.ah ([],-1)).isSome) λw' =>ci w w') :=by
 obtain⟨bv,sv,ps,rfl,hb,hs,fc⟩:=h.ex;obtain⟨Ab,cb,rfl,-,-⟩:=hb.form;obtain⟨As,cs,rfl,-,-⟩:=hs.sl.form;have⟨n,j5⟩:=eX ps.length;have oc:c.ah.length=n:=by rw[j5,<-fc,Qq]
 have fg:=hl.trans oc;rw[oc] at cC;have jU:0<n:=by rw[<-oc];exact List.length_pos_iff.2 hn
 rw[fg];rw[<-j5];obtain⟨k1,k2,k3⟩:=CJ (ax:=c.ax) hd;rw[hm] at k2;have HC:=Nv hd hf cC j5 fc jU;have HS:=aa hs;obtain⟨W0,aY,X0,-⟩:=nW w [ac c.ax,ac c.depth,am Ab n cb,am As n cs] 72;have B0:Af (ci w W0):=zay;have fD:=aa aY.symm;obtain⟨x0,x1,x2,x3⟩:=mm X0;have X0:=aa X0;have⟨F,hF⟩:=eX (iA c.ax c.depth 0 c.ah ([],-1));have HF:=aa hF;rw[<-hF];have⟨ax,eo⟩:=eX c.ax;have⟨dep,eK⟩:=eX c.depth;have HE:=dK eo eK;rw[<-eo] at x0 k2 fD;rw[<-eK] at x1 k1 k2 k3 fD;rw[<-eo,<-eK];rw[<-eo] at hf;rw[<-eK] at hd;have⟨E,hE⟩:=eX (8 - dep);rw[<-hE] at k1 k2 k3;have⟨M,hM⟩:=eX (2^E);have WH:0<M:=by rw[hM];exact Qdy Fd
 rw[<-hM] at k1 k2;have k8:=tM k3;have k9:=tM k1;have Tp:min E 64=E:=Zh Mx;have k4:¬M=0:=XO WH;have k5:¬(M:Int)=0:=Mx;have k6:(0:Int)<=E:=Xh _;have k7:((M:Int)==0)=false:=Xc k5;rw[Int.natCast_zero] at k2;have xA:= @run_makeMap prog;have d1:¬(dep:Int)<0:=Mx;have d2:¬8<dep:=Mx;have d3:¬256<=ax:=Mx;have d4:¬n=0:=Mx;have d2i:¬(8:Int)<dep:=Mx;have d3i:¬(256:Int)<=ax:=Mx;have d5:¬(ax:Int)<0:=Mx;have e1:((n:Int)==0)=false:=Xc Mx;have e2:decide ((dep:Int)<0)=false:=Xe d1;have e3:decide ((8:Int)<dep)=false:=Xe d2i;have e4:decide ((ax:Int)<0)=false:=Xe d5;have e5:decide ((256:Int)<=ax)=false:=Xe d3i;clear hb hs fc j5 oc fg hn hl cC jU hd hf hm aY h hF eo eK hE hM WH;go_in;go_upto_region 1 with fail;rw[fD.o];go_wp2_with fail;go_quiet (fail);go_upto_region 4 with fail;have M1:MG WN ((W0.drewN nq).alloc (.map #[] 0)) W0 (λ_=>none) 0:=MG.made (W0.drewN nq);have b1:ci W0 ((W0.drewN nq).alloc (.map #[] 0)):=(below_drewN pi nq).alloc go _;have⟨W1,aW⟩:=eX ((W0.drewN nq).alloc (.map #[] 0));have⟨mb,tB⟩:=eX W0.heap.size;rw[<-aW] at M1 b1|-;rw[<-tB] at M1|-;have X1:=aa (X0.o.on b1);have y3:W1.cell? (an w.heap.size 3)=some (am As n cs):=X1.o.cell rfl;have rj:Af (abq w c w mb (am Ab n cb) (am As n cs) ps 0 (-1) [] W1):=⟨lm,rfl,by rw[Lh];exact M1,X1.o,lm,Fd,Pd B0.o b1⟩;have Hmw:Af (w.heap.size<mb):=by show _<_;rw[tB];exact X0.o.lt
 have n4:(n:Int)<=4096:=by have:=HC.p3;omega
 clear aW tB b1 M1 x0 x1 x2 x3 k1 k2 k3 k4 k5 k6 k7 k8 k9 Tp d1 d2 d3 d4 d5 d2i d3i e1 e2 e3 e4 e5 xA fD;go_wp2_with fail;go_loopw [57,4] (λiv bv wr=>∃(k:Nat) (bh:Int) (seen:List aD),iv= ac k/\bv= ac bh/\Af (abq w c w mb (am Ab n cb) (am As n cs) ps k bh seen wr)) (λiv _ _=>n - (intOf iv).toNat)
 .exact⟨0,-1,[],rfl,rfl,rj.o⟩
 .obtain⟨k,bh,seen,rfl,rfl,HR⟩:=hrel;by_cases hk:k<n
  .obtain⟨p,hp⟩:∃p,ps[k]? =some p:=⟨_,Qf (by rw[<-HC.p4];exact hk)⟩;have hS:=HS.o.below HR.o.low;obtain⟨b,o,c',hv,hb,z0,z1,z2⟩:=hS.cells hp;obtain rfl:As=some (an b o):=(by injection hv);have eE:=hS.es p (Qi hp);obtain⟨Ae,ce,hU,-,-⟩:=eE.1.1.form;have⟨L,hL⟩:=eX p.1.es.length;rw[<-hL] at hU;rw[hU] at z2;have Wi:c.ah.drop k=p.1::c.ah.drop (k+1):=zgi (by rw[<-HC.p5,Qt,hp];rfl);have dR:=HR.o.rest;rw[Wi,lV] at dR;have HP:=aa eE;have Hps:=aa hp;have Eo:=dK hU hL;have HRe:=aa dR;have k0:=Xh k;have kn:=Xi.2 hk;have Hk:=dK hk (Qh (QX hk) HC.p3);have⟨d,hd⟩:=eX p.1.depth;have⟨nx,fu⟩:=eX p.1.next;have HDn:=dK hd fu;rw[<-hd] at z0;rw[<-fu] at z1;clear hv hb hS eE hU hL Wi dR hp hd fu hk;go_upto_region 8 with fail;have b3:=aF wr (.cells #[io d,gc nx,am Ae L ce] 79);have Y3:=ar wr [io d,gc nx,am Ae L ce] 79;have hle:=HR.o.low;have hM:=HR.o.map;have hX:=HR.o.box;have agK:=HR.o.y7;have abf:=HR.o.bhs;have⟨W3,cD⟩:=eX (wr.alloc (.cells #[io d,gc nx,am Ae L ce] 79));have⟨rb,ft⟩:=eX wr.heap.size;have wD:Af (w.heap.size<rb/\mb≠rb):=⟨by rw[ft];exact hX.lt,by rw[ft];exact XP hM.lt⟩;rw[<-cD] at b3 Y3|-;rw[<-ft] at Y3|-;have L3:=Pd hle b3;have hE3:=HP.p1.below (b3.mono hle.size);obtain⟨R,hR⟩:∃R,R=bC p.1:=⟨_,rfl⟩;have mn:Af (Calls prog 122 #[.agg #[io d,gc nx,am Ae L ce]] W3 (iF (.bool R) λw' =>ci W3 w')):=(by have h1:=rO W3 p.1 p.2 (hE3.more L3.size) HP.p2 HP.p3;rw[<-HDn.p1,<-HDn.q1,Eo.p1,<-hR] at h1;exact h1);have t0:=Y3.cell (j:=0) rfl;obtain⟨-,t1,t2⟩:=ra Y3;have M3:=aa (hM.on b3);have X3:=aa (hX.on b3);have Y3:=aa Y3;have L3:=aa L3;have E3:=aa hE3;have sr:Af (seen.length<=9*k/\ -1<=bh/\bh<256/\R=bC p.1):=⟨agK,abf.1,abf.2,hR⟩;clear HR b3 hle hM hX agK abf cD ft hE3 hR z0 z1 z2 y3;cases R
   .have Um:Af (F=none):=(by show _=_;rw[HF.o,HRe.o,Xo (Or.inl sr.q3.symm)]);go_wp2_with(go_at_call 122;refine mn.o.mono ?_;rintro e W4 ⟨rfl,b4⟩;have B4:=aa b4;have t4:=(Y3.o.on b4).cell (j:=2) rfl;clear b4);(all_goals(try rw[Qv]));(all_goals go_ret);all_goals exact⟨zda,Pd L3.o B4.o⟩
   .have Tv:¬(bC p.1=false):=(by rw[<-sr.q3];decide);by_cases eJ:0<k/\L=0
    .have Um:Af (F=none):=(by show _=_;rw[HF.o,HRe.o,Xo (Or.inr ⟨eJ.1,List.length_eq_zero_iff.1 (Eo.q1.symm.trans eJ.2)⟩)]);obtain⟨SK,rfl⟩:=eJ;have k1:(0:Int)<k:=Xi.2 SK;clear Tv;go_wp2_with(go_at_call 122;refine mn.o.mono ?_;rintro e W4 ⟨rfl,b4⟩;have B4:=aa b4;have t4:=(Y3.o.on b4).cell (j:=2) rfl;clear b4);(all_goals(try rw[Qv]));(all_goals go_ret);all_goals exact⟨zda,Pd L3.o B4.o⟩
    .have HFe:Af (F=(iZ c.ax c.depth k p.1.es (seen,bh)).bind (iA c.ax c.depth (k+1) (c.ah.drop (k+1)))):=by
      show _=_;rw[HF.o,HRe.o,Xd];rintro(h1|⟨h1,h2⟩)
      .exact Tv h1
      .exact eJ ⟨h1,by rw[Eo.q1,h2];rfl⟩
     have ec:(decide ((0:Int)<k)&&((L:Int)==0))=false:=by
      obtain h|h:=XG k
      .subst h;rfl
      .have:L≠0:=λe=>eJ ⟨h,e⟩;rw[Xc (show(L:Int)≠0 by omega),Bool.and_false]
     have hL0:0<k->¬L=0:=λh e=>eJ ⟨h,e⟩;have HLn:=aa hL0;clear Tv eJ ec hL0;go_cut [74] from 62 to 74 (λv74 W=>v74= .bool false/\Af (ci W3 W))
     .rcases XG k with hz|hz
      .subst hz;go_wp2_with(go_at_call 122;refine mn.o.mono ?_;rintro e W4 ⟨rfl,b4⟩;have B4:=aa b4;have t4:=(Y3.o.on b4).cell (j:=2) rfl;clear b4);go_meet;exact⟨rfl,B4.o⟩
      .have k1:(0:Int)<k:=Xi.2 hz;have l0:((L:Int)==0)=false:=Xc (by have:=HLn.o hz;omega);go_wp2_with(go_at_call 122;refine mn.o.mono ?_;rintro e W4 ⟨rfl,b4⟩;have B4:=aa b4;have t4:=(Y3.o.on b4).cell (j:=2) rfl;clear b4);go_meet;exact⟨rfl,B4.o⟩
     .obtain⟨rfl,B4⟩:=hcut;have t4:=(Y3.o.on B4.o).cell (j:=2) rfl;have WR:Af (UR w c w mb rb (am Ab n cb) (el b o n cs) [io d,gc nx,am Ae L ce] F k p.1.es 0 bh seen wc):=⟨lm,HFe.o,M3.o.on B4.o,X3.o.on B4.o,Y3.o.on B4.o,sr.p1,⟨sr.p2,sr.p3⟩,Pd L3.o B4.o⟩;have wN:Af (∀W,ci w W->Es W w (am Ae L ce) p.1.es):=λW hW=>(by have h1:=(HS.o.es p (Qi Hps.o)).1.below hW;rw[Eo.p1] at h1;exact h1);have l9:(L:Int)<=9:=(by have:=HP.q3;rw[<-Eo.q1] at this;omega);clear t0 t1 t2;go_wp2_with fail;go_loopw [78,4] (λjv bv wr=>∃(j:Nat) (wK :Int) (eH :List aD),jv= ac j/\bv= ac wK/\Af (UR w c w mb rb (am Ab n cb) (el b o n cs) [io d,gc nx,am Ae L ce] F k p.1.es j wK eH wr)) (λjv _ _=>L - (intOf jv).toNat)
      .exact⟨0,bh,seen,rfl,rfl,WR.o⟩
      .obtain⟨j,wK,eH,rfl,rfl,HI⟩:=hrel;by_cases hj:j<L
       .have Iw:=wN.o wr HI.o.low;have Ef:j<p.1.es.length:=(by rw[<-Eo.q1];exact hj);obtain⟨be,oe,ce',hU,-,-,mG,Wz⟩:=Iw.cells (QO lm Ef);obtain rfl:Ae=some (an be oe):=(by injection hU);obtain⟨q0,q1⟩:=Wz j Ef;have⟨x,hx⟩:=eX (p.1.es[j]);rw[<-hx] at q0 q1;have hxo:eR x:=(by rw[hx];exact Iw.2 _ (QI _));have BL:p.1.es.drop j=x::p.1.es.drop (j+1):=(by rw[hx];exact Zd Ef);have dR:=HI.o.rest;rw[BL,pO] at dR;have⟨pr,gY⟩:=eX x.print;have⟨bk,ej⟩:=eX x.block;rw[<-gY] at q0;rw[<-ej] at q1;have Wl:bI pr:=(by rw[gY];exact hxo.1);obtain⟨N,hN⟩:∃N:Nat,pr/2^56=(N:Int):=⟨(pr/2^56).toNat,(Xp (gQ Wl).1).symm⟩;have sG:N<256:=(by have:=(gQ Wl).2.1;rw[hN] at this;omega);have ec:WN.qY x:=⟨ahu hxo.1,ahv hxo.2⟩;have HX:=hI8 gY ej hN sG Ef Wl HI.o.low.size ec;have OX:=aa dR;have HIh:=aa HI.o;have HIm:=aa HI.o.map;have HIx:=aa HI.o.box;have HIs:=aa HI.o.OA;have HIl:=aa HI.o.low;have Hj:=aa hj;have j0:(0:Int)<=j:=Xh j;have jL:(j:Int)<L:=Xi.2 hj;clear Iw Ef hU mG Wz hx hxo BL dR gY ej Wl hN sG HI hj ec;go_upto_region 13 with fail;have b5:=aF wr (.cells #[ip pr,gc bk] 29);have Y5:=ar wr [ip pr,gc bk] 29;have⟨W5,j6⟩:=eX (wr.alloc (.cells #[ip pr,gc bk] 29));obtain⟨eb,mR⟩:∃z,z=wr.heap.size:=⟨_,rfl⟩;rw[<-j6] at b5 Y5|-;rw[<-mR] at Y5|-;have v0:=Y5.cell (j:=0) rfl;have v1:=Y5.cell (j:=1) rfl;have M5:=aa (HIm.o.on b5);have X5:=aa (HIx.o.on b5);have S5:=aa (HIs.o.on b5);have L5:=aa (Pd HIl.o b5);have Heb:Af (w.heap.size<=eb/\eb≠mb/\eb≠w.heap.size/\eb≠rb):=⟨by rw[mR];exact HX.p7,by rw[mR];exact XO HIm.o.lt,by rw[mR];exact XO HIx.o.lt,by rw[mR];exact XO HIs.o.lt⟩;have HBg:=aa (lr W5 pr HX.p6);rw[HX.p3] at HBg;have Y5:=aa Y5;clear q0 q1 j6 mR b5;go_upto_region 14 with(go_at_call 93;refine HBg.o.mono ?_;rintro e W2 ⟨rfl,rfl⟩);have M6:MG WN W5.drew mb (gw eH) eH.length:=M5.o.aQ rfl;obtain⟨st,W6,iq,hg6,⟨f1,s1,M1,Nk⟩,cO⟩:=MG.entry af7 M6 (by have h1:=HIh.o.y7;have h2:=Hk.q1;have h3:=HP.q3;have h4:=HX.p5;omega) HX.q7;obtain⟨n1,j5⟩:∃n1:Int,n1=((gw eH x).getD 0):=⟨_,rfl⟩;have hl5:(Instr.lookup 236 (.map (some mb)) (.agg #[ip pr,gc bk]) false).run prog W5.drew= .ok (ac n1) W5.drew:=(by have h1:=M6.at HX.q7;rw[j5,HX.p1,HX.p2];exact h1);have ZR:(Instr.lookup 236 (.map (some mb)) (.agg #[ip pr,gc bk]) false).run prog W6= .ok (ac n1) W6:=(by have h1:=M1.at HX.q7;rw[Nk] at h1;rw[j5,HX.p1,HX.p2];exact h1);have YA :(Instr.mapEntry 236 (.map (some mb)) (.agg #[ip pr,gc bk])).run prog W5.drew= .ok (.tuple #[ac n1,goInt st]) W6:=(by rw[j5,HX.p1,HX.p2];exact iq);have hn:n1=0\/n1=1:=(by rw[j5];unfold gw;split<;>simp);have Tt:IntKind.i64.wrap (n1+1)=n1+1:=(by obtain h|h:=hn<;>rw[h]<;>rfl);obtain⟨W7,sC,M7,ti⟩:=cO W6 (n1+1) rfl;have Hn1:=aa j5;have Hnz:=aa hn;clear j5 hn;have Pr :(Instr.entryStore 236 (.map (some mb)) (ac (st:Int)) (ac (n1+1))).run prog W6= .ok () W7:=sC;have bT:eb≠mb:=Heb.p2;have Y6:=(Y5.o.on (below_drewN (Xj _ W5) 1)).grown hg6 (λe=>bT (Qr e));have Y7:=Y6.grown ti (λe=>bT (Qr e));obtain⟨c60,c61⟩:=gh Y6;obtain⟨c70,c71⟩:=gh Y7;have M7:=aa M7;have X7:=aa (((X5.o.on (below_drewN (Xj _ W5) 1)).grown hg6 (λe=>XP Hmw.o (Qr e))).grown ti (λe=>XP Hmw.o (Qr e)));have S7:=aa (((S5.o.on (below_drewN (Xj _ W5) 1)).grown hg6 (λe=>wD.q1 (Qr e).symm)).grown ti (λe=>wD.q1 (Qr e).symm));have L7:=aa (((below_drewN L5.o 1).grown hg6 (below_drewN L5.o 1).size (λj e=>by cases(Qr e);exact QX Hmw.o)).grown ti (Qh (below_drewN L5.o 1).size hg6.size) (λj e=>by cases(Qr e);exact QX Hmw.o));have Y7:=aa Y7;clear M6 iq cO M1 Nk sC Y6 M5 X5 S5 L5 bT hg6 ti;go_cut [88] from 85 to 90 (λv88 W=>v88= ac (n1+1)/\Af (MG WN W mb (eM (gw eH) x (n1+1)) (if(gw eH x).isSome then eH.length else eH.length+1)/\aq W eb 29 [ip pr,gc bk]/\aq W w 72 [ac c.ax,ac c.depth,am Ab n cb,el b o n cs]/\aq W rb 79 [io d,gc nx,el be oe L ce]/\ci w W))
        .refine wp_region_held_drew (S:=λW=>W.cell? eb=some (ip pr)/\W.cell? (an eb 1)=some (gc bk)) KJ ⟨v0,v1⟩ (λhS=> ?_);refine wpAnyH_take (i:=0) (v:= .map (some mb)) rfl KJ KJ KJ (λ_ _ _ h=>h) (Or.inl ⟨zac,λW hW=>zM⟩) hS ?_;(try simp only[Act.put]);refine wpAnyH_take (i:=1) (v:= .agg #[ip pr,gc bk]) rfl KJ KJ KJ (λ_ _ _ h=>h) (Or.inl ⟨zac,λW hW=>lq eb _ rfl (RA hW.1 hW.2)⟩) hS ?_;(try simp only[Act.put]);refine wpAnyH_ready (rs:=[2,4]) KJ Sv ?_;refine AllReadyH.cons rfl (λK hK=> ?_) (AllReadyH.cons rfl (λK hK=> ?_) AllReadyH.nil)
         .go_simp;refine hK.out _ _ hS (λ_=> ?_);clear hK K;(try simp only[Act.put]);refine wpAnyH_take (i:=3) (v:= ac (n1+1)) rfl KJ KJ KJ (λ_ _ _ h=>h) (Or.inl ⟨zac,λW hW=>zM⟩) hS ?_;(try simp only[Act.put]);refine wpAnyH_ready (rs:=[4]) KJ Sv ?_;refine AllReadyH.cons rfl (λK hK=> ?_) AllReadyH.nil;go_simp;refine hK.out _ _ ⟨c60,c61⟩ (λhS6=> ?_);clear hK K;(try simp only[Act.put]);refine wpAnyH_take (i:=5) (v:=goInt st) rfl KJ KJ KJ (λ_ _ _ h=>h) (Or.inl ⟨zac,λW hW=>zM⟩) hS6 ?_;(try simp only[Act.put]);refine wpAnyH_ready (rs:=[6]) KJ Sv ?_;refine AllReadyH.cons rfl (λK hK=> ?_) AllReadyH.nil;go_simp;refine hK.out _ _ ⟨c70,c71⟩ (λ_=> ?_);clear hK K;(try simp only[Act.put]);exact zeV
         .go_simp;refine hK.out _ _ ⟨c60,c61⟩ (λhS6=> ?_);clear hK K;(try simp only[Act.put]);refine wpAnyH_take (i:=5) (v:=goInt st) rfl KJ KJ KJ (λ_ _ _ h=>h) (Or.inl ⟨zac,λW hW=>zM⟩) hS6 ?_;(try simp only[Act.put]);refine wpAnyH_ready (rs:=[2]) KJ Sv ?_;refine AllReadyH.cons rfl (λK hK=> ?_) AllReadyH.nil;go_simp;refine hK.out _ _ hS6 (λ_=> ?_);clear hK K;(try simp only[Act.put]);refine wpAnyH_take (i:=3) (v:= ac (n1+1)) rfl KJ KJ KJ (λ_ _ _ h=>h) (Or.inl ⟨zac,λW hW=>zM⟩) hS6 ?_;(try simp only[Act.put]);refine wpAnyH_ready (rs:=[6]) KJ Sv ?_;refine AllReadyH.cons rfl (λK hK=> ?_) AllReadyH.nil;go_simp;refine hK.out _ _ ⟨c70,c71⟩ (λ_=> ?_);clear hK K;(try simp only[Act.put]);exact zeV
        .obtain⟨rfl,Un⟩:=hcut;have hpN:x.print/2^56=(N:Int):=(by rw[<-HX.p1];exact HX.p3);have hpT:(x.print/2^56).toNat=N:=(by rw[hpN];exact Xt N);obtain⟨e0,e1⟩:=gh Un.p2;have SG:=Un.p1.at HX.q7;rw[show(eM (gw eH) x (n1+1)) x=some (n1+1) by unfold eM;rw[Xo rfl]] at SG;have SG:(Instr.lookup 236 (.map (some mb)) (.agg #[ip pr,gc bk]) false).run prog wc= .ok (ac (n1+1)) wc:=(by rw[HX.p1,HX.p2];exact SG);have L8:=aa Un.q4;by_cases hm:x∈eH
         .have h1:n1=1:=(by rw[Hn1.o];unfold gw;rw[Xo hm];rfl);have Um:Af (F=none):=(by show _=_;rw[OX.o];unfold sx;rw[Xo (Or.inl hm)];rfl);rw[h1] at SG;clear Tt YA Pr hl5 ZR c70 c71 c60 c61 v0 v1 hpN hpT hm h1;go_wp2_with fail;(all_goals(try rw[Qv]));(all_goals go_ret);all_goals exact⟨zda,L8.o⟩
         .have h1:n1=0:=(by rw[Hn1.o];unfold gw;rw[Xd hm];rfl);subst h1;have TN:MG WN wc mb (gw (x::eH)) (eH.length+1):=(by have h2:=Un.p1;rw[show(0:Int)+1=1 from rfl,Lg] at h2;rw[show(gw eH x).isSome=false by unfold gw;rw[Xd hm];rfl] at h2;exact h2);have HM8:=aa TN;have⟨B,hB⟩:=eX (bY c.ax c.depth N);have XY:Af (Calls prog 92 #[.agg #[ac c.ax,ac c.depth,am Ab n cb,el b o n cs],ac N] wc (iF (.bool B) λw' =>ci wc w')):=(by rw[hB];exact tV wc c.ax c.depth N HC.p2 HC.p1 HX.p4 _ _);obtain⟨a0,a1,a2,a3⟩:=mm Un.p3;obtain⟨bad,eJ⟩:∃bad:Bool,bad=(!B||(decide (0<k)&&decide (0<=wK)&&decide (wK≠N))):=⟨_,rfl⟩;have ahm:Af (bad=true↔(bY c.ax c.depth N=false\/(0<k/\0<=wK/\wK≠N))):=(by show _↔_;rw[eJ,hB];simp only[Qgd,Qfn,XR,Qad,and_assoc]);have hbh:=aa HIh.o.bhs;have SG:=SG;have Hm:=aa hm;have HpN:=aa hpN;have HpT:=aa hpT;clear Tt YA Pr hl5 ZR c70 c71 c60 c61 v0 v1 hpN hpT hm TN hB;go_upto_region 15 with fail;go_cut [113] from 91 to 113 (λamM W=>amM= .bool bad/\Af (ci wc W))
          .cases B
           .go_wp2_with(go_at_call 92;refine XY.o.mono ?_;rintro e W9 ⟨rfl,b9⟩;have B9:=aa b9;clear b9);go_meet;exact⟨by rw[eJ];rfl,B9.o⟩
           .rcases XG k with hz|hz
            .subst hz;go_wp2_with(go_at_call 92;refine XY.o.mono ?_;rintro e W9 ⟨rfl,b9⟩;have B9:=aa b9;clear b9);go_meet;exact⟨by rw[eJ];rfl,B9.o⟩
            .have k1:=Xi.2 hz;have Ee:=Xa hz;by_cases jr:0<=wK
             .by_cases hbN:wK =N
              .have bO:bad=false:=(by rw[eJ,hbN];simp);clear eJ Ee hz;subst hbN;go_wp2_with(go_at_call 92;refine XY.o.mono ?_;rintro e W9 ⟨rfl,b9⟩;have B9:=aa b9;clear b9);go_meet;exact⟨by rw[bO],B9.o⟩
              .have bO:bad=true:=(by rw[eJ];simp[jr,hbN,hz]);have mG:=Xc hbN;have WA:(wK !=(N:Int))=true:=(by rw[bne,mG];rfl);clear eJ Ee hz hbN;go_wp2_with(go_at_call 92;refine XY.o.mono ?_;rintro e W9 ⟨rfl,b9⟩;have B9:=aa b9;clear b9);go_meet;exact⟨by rw[bO],B9.o⟩
             .have bO:bad=false:=(by rw[eJ];simp[jr]);clear eJ Ee hz;go_wp2_with(go_at_call 92;refine XY.o.mono ?_;rintro e W9 ⟨rfl,b9⟩;have B9:=aa b9;clear b9);go_meet;exact⟨by rw[bO],B9.o⟩
          .obtain⟨rfl,B9⟩:=hcut;have L9:=aa (Pd L8.o B9.o);clear SG e0 e1 a0 a1 a2 a3 eJ;cases bad
           .have gZ:¬(bY c.ax c.depth N=false\/(0<k/\0<=wK/\wK≠N)):=λh=>(by have:=(ahm.o).2 h;cases this);have cO:sx c.ax c.depth k (eH,wK) x=some (x::eH,if 0<k then(N:Int) else wK):=by
             unfold sx;rw[HpT.o,HpN.o,Xd];rintro(h|h)
             .exact Hm.o h
             .exact gZ h
            have TO:F=(iZ c.ax c.depth k (p.1.es.drop (j+1)) (x::eH,if 0<k then(N:Int) else wK)).bind (iA c.ax c.depth (k+1) (c.ah.drop (k+1))):=(by rw[OX.o,cO];rfl);have hN8:UR w c w mb rb (am Ab n cb) (el b o n cs) [io d,gc nx,el be oe L ce] F k p.1.es (j+1) (if 0<k then(N:Int) else wK) (x::eH) wc:=
             ⟨HX.p5,TO,HM8.o.on B9.o,Un.p3.on B9.o,Un.p4.on B9.o,by have h1:=HIh.o.y7;rw[QF];omega,by split;(have h2:=HX.p4;omega);exact hbh.o,L9.o⟩
            have HN8:=aa hN8;have El:=aa ((Pc (k:=j) Mx).1);clear gZ cO TO hN8;obtain hz|hz:=XG k
            .subst hz;go_wp2_with fail;exact⟨⟨j+1,wK,x::eH,zcC,rfl,HN8.o⟩,zbZ⟩
            .have k1:=Xi.2 hz;have HN9:Af (UR w c w mb rb (am Ab n cb) (el b o n cs) [io d,gc nx,el be oe L ce] F k p.1.es (j+1) (N:Int) (x::eH) wc):=(by have h1:=HN8.o;rw[Xo hz] at h1;exact h1);go_wp2_with fail;exact⟨⟨j+1,N,x::eH,zcC,rfl,HN9.o⟩,zbZ⟩
           .have Um:Af (F=none):=(by show _=_;have h1:=(ahm.o).1 rfl;rw[OX.o];unfold sx;rw[HpT.o,HpN.o,Xo (Or.inr h1)];rfl);go_wp2_with fail;(all_goals(try rw[Qv]));(all_goals go_ret);all_goals exact⟨zda,L9.o⟩
       .have TC:=QE (by rw[Eo.q1];exact HI.o.le) (QC hj);have dR:=HI.o.rest;rw[Zu (by rw[<-Eo.q1,TC];exact go)] at dR;have Ps:iA c.ax c.depth 0 c.ah ([],-1)=iA c.ax c.depth (k+1) (c.ah.drop (k+1)) (eH,wK):=(by rw[<-HF.o,dR];rfl);have HN:Af (abq w c w mb (am Ab n cb) (el b o n cs) ps (k+1) wK eH wr):=⟨by rw[<-HC.p4];exact Hk.p1,Ps,HI.o.map,HI.o.box,by have h1:=HI.o.y7;have h2:=HP.q3;rw[<-Eo.q1,<-TC] at h2;omega,HI.o.bhs,HI.o.low⟩;obtain⟨nZ,am5⟩:=Pc Hk.q1;have El:=aa nZ;have bj:=aa Hk.p1;subst TC;clear HI hj dR Ps am5;go_wp2_with fail;exact⟨⟨k+1,wK,eH,zcC,rfl,HN.o⟩,by first|exact al bj.o|(rw[El.o];exact al bj.o)⟩
  .have cH:=QE (by rw[HC.p4];exact HR.o.le) (QC hk);have hF:F=some (seen,bh):=(by rw[HF.o,HR.o.rest,Zu (by rw[<-HC.p5,Qq,<-HC.p4,cH];exact go)];rfl);have Ya:=aa hF;have HL:=aa HR.o.low;subst cH;clear HR hk hF;go_wp2_with fail;(try rw[Qv]);go_ret;exact⟨by rw[Ya.o];rfl,HL.o⟩
def FR(w:Wo)(c:ak)(v:Va)(h:Uq w w v c)(hd:c.depth<=8)(hf:c.ax<256)(hm:c.ax%2^(8 - c.depth)≠0)(hn:c.ah≠[])(hl:c.blocks.length=c.ah.length):
  Calls prog 71 #[v] w (iF false λw' =>ci w w') :=by
 obtain⟨bv,sv,ps,rfl,hb,hs,fc⟩:=h.ex;obtain⟨Ab,cb,rfl,-,-⟩:=hb.form;obtain⟨As,cs,rfl,-,-⟩:=hs.sl.form;have⟨n,j5⟩:=eX ps.length;have oc:c.ah.length=n:=by rw[j5,<-fc,Qq]
 have fg:=hl.trans oc;have jU:0<n:=oc▸(List.length_pos_iff.2 hn);rw[fg];rw[<-j5];obtain⟨k1,k2,k3⟩:=CJ (ax:=c.ax) hd;obtain⟨W0,aY,X0,-⟩:=nW w [ac c.ax,ac c.depth,am Ab n cb,am As n cs] 72;have B0:Af (ci w W0):=aY▸(aF _ _);have fD:=aa aY.symm;obtain⟨x0,x1,x2,x3⟩:=mm X0;have⟨ax,eo⟩:=eX c.ax;have⟨dep,eK⟩:=eX c.depth;rw[<-eo] at x0 k2 fD hf hm;rw[<-eK] at x1 k1 k2 k3 fD hd hm;rw[<-eo,<-eK];have⟨E,hE⟩:=eX (8 - dep);rw[<-hE] at k1 k2 k3 hm;have⟨M,hM⟩:=eX (2^E);have WH:0<M:=by rw[hM];exact Qdy Fd
 rw[<-hM] at k1 k2 hm;obtain⟨R,hR⟩:∃R,R=ax%M:=⟨_,rfl⟩;rw[<-hR] at k2 hm;have hRi:((R:Int)==0)=false:=Xc Mx;have hRn:((R:Int)!=0)=true:=by rw[bne,hRi];rfl
 have k8:IntKind.i64.wrap (8 - (dep:Int))=(E:Int):=tM k3;have k9:IntKind.i64.wrap ((2:Int)^E)=(M:Int):=tM k1;have Tp:min E 64=E:=Zh Mx;have k5:¬(M:Int)=0:=Mx;have k6:(0:Int)<=E:=Xh _;have k7:((M:Int)==0)=false:=Xc k5;have e1:((n:Int)==0)=false:=Xc Mx;have e2:decide ((dep:Int)<0)=false:=Xe Mx;have e3:decide ((8:Int)<dep)=false:=Xe Mx;have e4:decide ((ax:Int)<0)=false:=Xe Mx;have e5:decide ((256:Int)<=ax)=false:=Xe Mx;clear hb hs fc j5 oc fg hn hl jU hd hf hm aY h eo eK hE hM WH hR X0;go_in;go_upto_region 1 with fail;rw[fD.o];go_wp2_with fail;go_quiet (fail);go_wp2_with fail;all_goals(try rw[Qv])
 all_goals go_ret
 all_goals exact⟨rfl,below_drewN B0.o _⟩
def pJ(w:Wo)(c:ak)(v:Va)(h:Uq w w v c)(hd:c.depth<=8)(hf:c.ax<256)(hn:c.ah≠[])(hl:c.blocks.length=c.ah.length)(cC:c.ah.length<=4096):
  Calls prog 71 #[v] w (iF (.bool (dz c)) λw' =>ci w w') :=by
 by_cases hm:c.ax%2^(8 - c.depth)=0
 .have h1:=Dm w c v h hd hf hm hn hl cC;have h2:dz c=(iA c.ax c.depth 0 c.ah ([],-1)).isSome:=by unfold dz;simp[hd,hf,hm,hn,hl]
  rw[h2];exact h1
 .have h1:=FR w c v h hd hf hm hn hl;have h2:dz c=false:=by unfold dz;simp[hm]
  rw[h2];exact h1
section
variable{base:Nat}{v v' :Va}{ps:List (ay × Va)}{P:ST}{w w' :Wo}{dst:Option Tmp}{ty t:Fy}{pos:String}{after:Array Edge}
structure gj(w:Wo)(base:Nat)(v:Va)(ps:List (ay×Va)):Prop where
 row:w.ownsRow base 79 3 v ps.length (ps.flatMap fV)
 es:∀p∈ps,cV w base p.2 p.1.es/\pC p.1/\∀x∈p.1.es,eR x
def cV.form{w:Wo}{es:List aD}(h:cV w base v es):∃A c,v= am A es.length c:=by
 rcases h.2 with⟨rfl,h0⟩|⟨g,cap,cur,rfl,_⟩
 .rw[h0];exact⟨_,_,rfl⟩
 .exact⟨_,_,rfl⟩
def FG{w:Wo}{p:ay×Va}(h:cV w base p.2 p.1.es):∀u∈fV p,u.oneCell' =true:=by
 obtain⟨A,c,hv⟩:=h.form;intro u hu;simp[fV] at hu;obtain rfl|rfl|rfl:=hu
 .rfl
 .rfl
 .rw[hv];rfl
def gj.on{w w' :Wo}(h:gj w base v ps)(hb:ci w w'):gj w' base v ps:=
 ⟨aS h.row hb,λp hp=>⟨aS (h.es p hp).1 hb,(h.es p hp).2⟩⟩
def gj.Wa{w:Wo}(h:gj w base v ps):mP w w v ps:=
 ⟨Sl.bU h.row,λp hp=>⟨⟨Sl.bU (h.es p hp).1,(h.es p hp).2.2⟩,(h.es p hp).2.1⟩⟩
def gj.form{w:Wo}(h:gj w base v ps):∃A n c,v= am A n c:=zfr
def gj.kept{w w' :Wo}{b' e' s' n' :Nat}{VY :Ox}(h:gj w base v ps)(k:w.ownsRow b' e' s' v' n' VY)(h1:79≠e')(h2:29≠e')(hg:w.grownBy w' v'.ownBlock):gj w' base v ps:=
 ⟨Qac h.row hg (iT h.row k h1),λp hp=>⟨Qac (h.es p hp).1 hg (iT (h.es p hp).1 k h2),(h.es p hp).2⟩⟩
def Rg(w:Wo)(base:Nat):gj w base () []:=⟨Qbn _ _ _ _,λp hp=>zdh⟩
def OH:(prog.info? 79).map (λi=>(i.zero,i.size,i.bytes))=some (some (.agg #[io 0,gc 0,()]),3,32):=KJ
def PU(w:Wo)(base:Nat)(v:Va)(ps:List (ay×Va))(h:gj w base v ps)(g:Nat)(p:ay×Va)(hx:aq w g 79 (fV p))(hp:cV w base p.2 p.1.es/\pC p.1/\∀x∈p.1.es,eR x)(hl:ps.length<=10000)(hb:base<=w)(ty:Fy):
  ∃v' w',(Builtin.append_ #[70,70] ty #[v,el g 0 1 1]).run prog w= .ok v' w'/\gj w' base v' (ps++[p])/\w.grownBy w' v.ownBlock/\(v'.ownBlock=v.ownBlock\/v'.ownBlock=some w):=by
 obtain⟨v',w',h1,h2,h3,h4⟩:=cy (P:=prog) w base 70 ty 79 _ 3 32 underlying70 OH rfl Fd v ps.length _ h.row (B:=w.heap.size) (el g 0 1 1) 1 (fV p)
  (hx.sl (o:=0) (n:=1) (sz:=3) (c:=1) (by simp[fV]) go AN) (FG hp.1) Do Mx hb
 refine⟨v',w',h1,⟨?_,λq hq=> ?_⟩,h3,h4⟩
 .rw[Qo,QP];simpa using h2
 .rcases Qz.1 hq with hq|hq
  .exact⟨Qac (h.es q hq).1 h3 (iT (h.es q hq).1 h.row Fd),(h.es q hq).2⟩
  .rw[Qx] at hq;subst hq;exact⟨Qac hp.1 h3 (iT hp.1 h.row Fd),hp.2⟩
def PW{k:IntKind}(K:NK k)(w:Wo)(base:Nat)(v:Va)(xs:Fr)(h:aB w base K.et k v xs)(g:Nat)(x:Int)(hx:aq w g K.et [.int k x])(hl:xs.length<=100000)(hb:base<=w)(ty:Fy):
  ∃v' w',(Builtin.append_ #[K.st,K.st] ty #[v,el g 0 1 1]).run prog w= .ok v' w'/\aB w' base K.et k v' (xs++[x])/\w.grownBy w' v.ownBlock:=by
 obtain⟨v',w',h1,h2,h3,-⟩:=cy (P:=prog) w base K.st ty K.et (.int k 0) 1 K.bytes K.ht K.hi rfl Fd v xs.length _ h (B:=w.heap.size) (el g 0 1 1) 1 [.int k x]
  (hx.sl (o:=0) (n:=1) (sz:=1) (c:=1) Sv go AN) (λu hu=>by rw[Qx] at hu;rw[hu];rfl) Do (by have:=K.hb;exact Qh (Nat.mul_le_mul (show xs.length+1<=1000000 by omega) this) Fd) hb
 refine⟨v',w',h1,?_,h3⟩;rw[aB,Qo,QL];exact h2
section
def ea{f:Operand->Va}{os ox:Operand}{vx:Va}(hs:f os=v)(hx:f ox=vx)(h:(Builtin.append_ #[t,t] ty #[v,vx]).run P w= .ok v' w'):
  (execOp f ⟨dst,.call {callee:= .builtin .append,args:= #[os,ox],argTypes:= #[t,t]},ty,pos,after,none⟩).run P w= .ok (.value v') w' :=by
 rw[<-hs,<-hx] at h;simp[execOp,resolve,invoke,builtin,h,Result.andThen]
end
variable{n cb sb rb:Nat}{W:Wo}{c4 s3:Ox}{bv sv:Va}{xs:Fr}{p:ay × Va}
structure JA(s:aX)(c:ak):Prop where
 len:c.blocks.length=c.ah.length
 ne:c.ah≠[]
 pg:∀k,k<c.blocks.length->∃(b:Nat) (sh:ay),c.blocks[k]? =some (b:Int)/\0<b/\b<s.t.len/\c.ah[k]? =some sh/\mJ (s.read b)=some sh/\sh.next=c.blocks.getD (k+1) 0
 nd:c.blocks.Nodup
def GP{p:Fr}{s:ay}(h:mJ p=some s):bC s=true/\s.es.length<=9:=by
 have h1:bC s=true:=by
  unfold mJ at h;split at h
  .cases h
  .dsimp only at h;split at h
   .split at h
    .rename_i AQ
     rw[Qr h] at AQ;exact AQ.1
    .cases h
   .cases h
 refine⟨h1,?_⟩;unfold bC at h1;simp only[XR,Qad] at h1;exact h1.1.1.1.2
def Sa(w:Wo)(v:Va)(p:Fr)(h:Bs w w v p)(s:ay)(hd:mJ p=some s):Calls prog 69 #[v] w λe w' =>∃v',e= .returned (.tuple #[.agg #[io s.depth,gc s.next,v'],ac 0])/\cV w' w v' s.es/\(∀x∈s.es,eR x)/\aI s.depth/\bX s.next/\ci w w' :=
 (Sb w v p h).mono λe w' ⟨hb,h1⟩=>by
  rcases h1 with⟨h2,-⟩|⟨s',v',h2,h3,h4,h5,h6,h7⟩
  .rw[hd] at h2;cases h2
  .rw[hd] at h2;cases h2;exact⟨v',h3,h4,h5,h6,h7,hb⟩
def eY{w:Wo}{b:Nat}{x0 x1 x2 x3:Va}(h:aq w b 72 [x0,x1,x2,x3]):(loadVar 72 (ol b)).run prog w= .ok (.agg #[x0,x1,x2,x3]) w:=by have hl:=Qay (P:=prog) w (ol b) [x0,x1,x2,x3] (λj v hj=>zaG);simp only[QF,Xq,QR,Nat.reduceAdd] at hl;have h2:(isAgg 72).run prog w= .ok true w:=KJ;have h3:(sizeOf 72).run prog w= .ok 4 w:=KJ;exact zfH
def OG(w:Wo)(a:Addr):Nat:=match w.cell? a with|some (.slice _ n _)=>n|_=>0
def CE{w:Wo}{a:Addr}{A:GB}{c:Nat}(h:w.cell? a=some (am A n c)):OG w a=n:=by rw[OG,h]
structure EN(w W:Wo)(cb sb rb:Nat)(c4 s3:Ox)(bv:Va)(xs:Fr)(sv:Va)(ps:List (ay×Va))(p:ay×Va):Prop where
 c:aq W cb 72 c4
 s:aq W sb 79 s3
 r:aq W rb 72 [.int .i64 0,.int .i64 0,(),()]
 bo:aB W w 3 .i64 bv xs
 so:gj W w sv ps
 po:cV W w p.2 p.1.es
 ns:sv.ownBlock≠some sb
 low:Below w w W
section
def EN.on{W' :Wo}(h:EN w W cb sb rb c4 s3 bv xs sv ps p)(hb:ci W W'):EN w W' cb sb rb c4 s3 bv xs sv ps p:=
 ⟨h.c.on hb,h.s.on hb,h.r.on hb,aB.on h.bo hb,h.so.on hb,aS h.po hb,h.ns,Pd h.low hb⟩
def EN.anF(h:EN w W cb sb rb c4 s3 bv xs sv ps p)(hl:xs.length<=10000)(g:Nat)(x:Int)(hx:aq W g 3 [ac x])(ty:Fy):
  ∃v' W',(Builtin.append_ #[53,53] ty #[bv,el g 0 1 1]).run prog W= .ok v' W'/\EN w W' cb sb rb c4 s3 v' (xs++[x]) sv ps p/\W.grownBy W' bv.ownBlock:=by
 obtain⟨v',W',h1,h2,h3⟩:=PW NKi W w bv xs h.bo g x hx Mx h.low.size ty;refine⟨v',W',h1,⟨h.c.grown h3 (λe=>aq.not_row h.c Fd h.bo e.symm),h.s.grown h3 (λe=>aq.not_row h.s Fd h.bo e.symm),h.r.grown h3 (λe=>aq.not_row h.r Fd h.bo e.symm),h2,h.so.kept h.bo Fd Fd h3,Qac h.po h3 (iT h.po h.bo Fd),h.ns,h.low.grown h3 h.low.size (λj e=>(Xr h.bo j e).1)⟩,h3⟩
def EN.anE(h:EN w W cb sb rb c4 s3 bv xs sv ps p)(hl:ps.length<=10000)(hp:pC p.1/\∀x∈p.1.es,eR x)(g:Nat)(hx:aq W g 79 (fV p))(ty:Fy):
  ∃v' W',(Builtin.append_ #[70,70] ty #[sv,el g 0 1 1]).run prog W= .ok v' W'/\EN w W' cb sb rb c4 s3 bv xs v' (ps++[p]) p/\W.grownBy W' sv.ownBlock:=by
 obtain⟨v',W',h1,h2,h3,h4⟩:=PU W w sv ps h.so g p hx ⟨h.po,hp⟩ hl h.low.size ty;refine⟨v',W',h1,⟨h.c.grown h3 (λe=> ?_),h.s.grown h3 (λe=> ?_),h.r.grown h3 (λe=> ?_),Qac h.bo h3 (iT h.bo h.so.row Fd),h2,Qac h.po h3 (iT h.po h.so.row Fd),?_,h.low.grown h3 h.low.size (λj e=>(Xr h.so.row j e).1)⟩,h3⟩
 .exact aq.not_row h.c Fd h.so.row e.symm
 .exact h.ns e.symm
 .exact aq.not_row h.r Fd h.so.row e.symm
 .rcases h4 with h4|h4
  .rw[h4];exact h.ns
  .rw[h4];intro e;have:=Qr e;have:=h.s.lt;omega
def ie{w:Wo}{base sz:Nat}{e T:Fy}{v:Va}{xs:Ox}{nb:Nat}{cs:Ox}(h:w.ownsRow base e sz v n xs)(hb:aq w nb T cs)(JG:T≠e)(j:Nat)(u:Va):(w.setCell (an nb j) u).ownsRow base e sz v n xs:=
 Qac h (row:=some nb) ⟨rfl,rfl,rfl,Sv,λi _ bT=>Xl _ _ _ _ (λe=>bT zbl)⟩ (.inr (aq.not_row hb JG h))
def EN.set(h:EN w W cb sb rb c4 s3 bv xs sv ps p)(h1:sb≠cb)(h2:rb≠cb)(h3:w<=cb)(j:Nat)(u:Va):EN w (W.setCell (an cb j) u) cb sb rb (c4.set j u) s3 bv xs sv ps p:=
 ⟨h.c.set j u,h.s.az (p:=an cb j) h1 u,h.r.az (p:=an cb j) h2 u,aB.aT (T:=72) h.bo h.c Fd j u,⟨ie h.so.row h.c Fd j u,λq hq=>⟨ie (h.so.es q hq).1 h.c Fd j u,(h.so.es q hq).2⟩⟩,ie h.po h.c Fd j u,h.ns,h.low.setCell (p:=an cb j) h3 u⟩
end
variable{g:Nat}{x0 x1 x2 x3:Va}
structure abI(w:Wo)(c:ak)(cb rb:Nat)(k:Nat)(wr:Wo):Prop where
 le:k<=c.blocks.length
 mem:∃Ab ug As cs ps,aq wr cb 72 [.int .i64 c.ax,.int .i64 c.depth,.slice Ab k ug,.slice As k cs]/\aB wr w 3 .i64 (.slice Ab k ug) (c.blocks.take k)/\gj wr w (.slice As k cs) ps/\ps.map Prod.fst=c.ah.take k
 res:aq wr rb 72 [.int .i64 0,.int .i64 0,(),()]
 low:Below w w wr
def Pt{x E ax dep:Nat}(hd:dep<=8)(hE:E=8 - dep)(hx:ax=x*2^E)(hf:ax<256):IntKind.i64.wrap (8 - (dep:Int))=(E:Int)/\min E 64=E/\(0:Int)<=E/\IntKind.i64.wrap ((x:Int)*2^E)=(ax:Int)/\IntKind.i64.wrap (dep:Int)=dep:=by
 have h1:((x:Int)*2^E)=(ax:Int):=by rw[hx];simp
 rw[h1];exact UV
def qR{b:Int}(h:0<=b/\b<4096):IntKind.i64.wrap b=b:=UV
def w5{l:Fr}(h:l.Nodup){k:Nat}{x:Int}(hk:l[k]? =some x):(l.take k).contains x=false:=by
 rw[Xf];intro hc;have hm:x∈l.take k:=by simpa using hc
 obtain⟨i,hi,he⟩:=Qbu hm;rw[Qu] at hi;obtain⟨bQ,hke⟩:=Ql.1 hk;rw[List.getElem_take] at he;exact Qio.1 h i k Mx bQ Mx (he.trans hke.symm)
def oW{e:Fy}(h:aq w g e [x0,x1,x2,x3])(y0 y1 y2 y3:Va):aq ((((w.setCell (ol g) y0).setCell (an g 1) y1).setCell (an g 2) y2).setCell (an g 3) y3) g e [y0,y1,y2,y3]:=(((h.set 0 y0).set 1 y1).set 2 y2).set 3 y3
def gj.aT{v:Va}{T:Fy}{nb:Nat}{cs:Ox}(h:gj w base v ps)(hb:aq w nb T cs)(h1:T≠79)(h2:T≠29)(j:Nat)(u:Va):gj (w.setCell (an nb j) u) base v ps:=
 ⟨ie h.row hb h1 j u,λq hq=>⟨ie (h.es q hq).1 hb h2 j u,(h.es q hq).2⟩⟩
def lO{w0:Wo}{bv sv:Va}{xs:Fr}(h:aq w g 72 [x0,x1,x2,x3])(hb:aB w base 3 .i64 bv xs)(hs:gj w base sv ps)(hl:ci w0 w)(hg:w0<=g)(y0 y1 y2 y3:Va):
  aB ((((w.setCell (ol g) y0).setCell (an g 1) y1).setCell (an g 2) y2).setCell (an g 3) y3) base 3 .i64 bv xs/\gj ((((w.setCell (ol g) y0).setCell (an g 1) y1).setCell (an g 2) y2).setCell (an g 3) y3) base sv ps/\ci w0 ((((w.setCell (ol g) y0).setCell (an g 1) y1).setCell (an g 2) y2).setCell (an g 3) y3):=by
 have h1:=h.set 0 y0;have h2:=h1.set 1 y1;have h3:=h2.set 2 y2;refine⟨aB.aT (aB.aT (aB.aT (aB.aT hb h Fd 0 y0) h1 Fd 1 y1) h2 Fd 2 y2) h3 Fd 3 y3,(((hs.aT h Fd Fd 0 y0).aT h1 Fd Fd 1 y1).aT h2 Fd Fd 2 y2).aT h3 Fd Fd 3 y3,?_⟩;exact(((hl.setCell (p:=ol g) hg y0).setCell (p:=an g 1) hg y1).setCell (p:=an g 2) hg y2).setCell (p:=an g 3) hg y3
def GZ(w:Wo)(I:bF)(s:aX)(h:cR w I s)(dep:Nat)(ae:List (Nat×Int))(rn:eQ dep ae)(dv:Va)(ue:Ns w w .u16 dv (expand ae))(j i e:Nat)(sg:Nat×Int)(lA:ae[j]? =some sg)(hi:i<sg.1)(he:sg.1=2^e)
  (c:ak) (hc:JA s c) (SP:c.ax=aC ae j*2^(8 - dep)) (hcd:c.depth=dep - e) (pV:c.blocks.getD 0 0=sg.2) (hr:dz c=true) (cC:c.ah.length<=4096):
  Calls prog 22 #[I.b,.agg #[io dep,dv],ac (aC ae j+i:Nat)] w λe' w' =>∃bv sv ps,e' = .returned (.tuple #[.agg #[ac c.ax,ac c.depth,bv,sv],ac 0])/\aB w' w 3 .i64 bv c.blocks/\gj w' w sv ps/\ps.map Prod.fst=c.ah/\ci w w' :=by
 obtain⟨A,cc,rfl,-,-⟩:=ue.form;have⟨n,hn⟩:=eX ((expand ae).length);have⟨x,hx⟩:=eX (aC ae j);have⟨q,hq⟩:=eX (x+i);have hle:=fH ae (j+1);rw[bH ae j sg lA,<-hx,<-hn] at hle;have xG:n<=256:=hn▸rn.len;have Nc:q<n:=Mx
 have hHc:=(by
  have SE :=hr;unfold dz at SE;simp only[XR,Qad] at SE;exact SE :_)
 obtain⟨⟨⟨⟨⟨-,-⟩,qc⟩,sE⟩,-⟩,-⟩:=hHc;obtain⟨b,o,c',mQ,-,-,hb,aH⟩:=ue.cells Mx;rw[<-hn] at mQ aH ue|-;obtain rfl:A=some (an b o):=zcr;have iO:w.cell? (an b (o+q))=some (pK sg.2):=by have h3:=eh ae j sg lA i hi;rw[<-hx,<-hq] at h3;rw[aH q Nc,Qe,h3];rfl
 obtain⟨W0,aY,-,B0⟩:=nW w [io dep,el b o n cc] 66;have X0:aq W0 w 66 (zgh dep (el b o n cc)):=aY▸(ar w [_,_] _);have fD:=aa aY.symm;have⟨E,hE⟩:=eX (8 - dep);obtain⟨k1,k2,k3,k4,k5⟩:=Pt rn.d8 hE (by rw[SP,<-hx,hE]) sE;obtain⟨W1,aW,R1,B1⟩:=nW W0 [ac 0,ac 0,(),()] 72;have gB:=aa aW.symm;have fI:=Pd B0 B1;have X1:=X0.on B1;have lz:W0.heap.size=w.heap.size+1:=zbf;have⟨rb,ft⟩:=eX (w.heap.size+1);rw[lz,<-ft] at R1;have wD:=aa ft.symm;have Hwr:Af (w<=rb):=by show _<=_;rw[ft];exact Q0 _
 have uo:=nT W1 dep ae rn (el b o n cc) (Sl.more (Sl.below ue fI) fI.size) j i e sg lA hi he;rw[<-hx,<-hq,<-hcd] at uo;have uo:=aa uo;have⟨f,hf⟩:=eX c.ax;have⟨d,hd⟩:=eX c.depth;rw[<-hf] at k4;rw[<-hd] at uo;have wL:=dK hf hd;obtain⟨x0,x1⟩:=gh X1;obtain⟨X1,R1,fI⟩:=qC X1 R1 fI;have iu:Af (q<n/\n<=256/\dep<=8/\0<sg.2/\sg.2<4096):=⟨Nc,xG,rn.d8,rn.Ej sg (Qi lA)⟩;have H:=aa h;rw[<-hx,<-hq,<-hf,<-hd];have q0:=Xh q;have qn:=Xi.2 Nc;have hsw:=qR ⟨Qca iu.p4,iu.q4⟩;clear ue hn hx hq hle xG Nc qc sE mQ aH aY X0 B0 hE SP aW B1 ft hf hd hcd h rn lA hi he lz;change Af _ at hr hb iO hc pV cC;go_in;go_upto_region 1 with fail;rw[fD.o,gB.o,wD.o];go_upto_region 2 with(go_at_call 68;refine PF uo.o λW2 b2=> ?_;obtain⟨B2,X2,R2⟩:=qC b2 (X1.o.on b2) (R1.o.on b2);clear b2);obtain⟨y0,y1⟩:=gh X2.o;clear x0 x1 uo;go_upto_region 3 with fail;obtain⟨W3,cD,C3,b3⟩:=nW W2 [ac f,ac d,(),()] 72;have⟨cb,iI⟩:=eX W2.heap.size;rw[<-cD];rw[<-iI] at C3|-;have X3:=X2.o.on b3;have z1:=X3.j1;have R3:=aa (R2.o.on b3);have L2:=Pd fI.o B2.o;have L3:=aa (Pd L2 b3);have hq3:=(L3.o.cell (p:=an b (o+q)) hb.o).trans iO.o;have ahb:Af (rb≠cb):=by show _≠_;rw[iI];exact XP R2.o.lt
 have Hcb:Af (w<=cb/\cb≠rb):=⟨by rw[iI];exact L2.size,iI▸(XO R2.o.lt)⟩;have rj:Af (abI w c cb rb 0 W3):=⟨lm,⟨none,0,none,0,[],by rw[<-wL.p1,<-wL.q1];exact C3,cQ _ _ _ _,Rg _ _,rfl⟩,R3.o,L3.o⟩;have⟨N,hN⟩:=eX c.blocks.length;have HN:=aa hN;clear cD iI X3 L2 C3 b3 y0 y1 hN;go_wp2;clear z1 hq3 hsw qn q0 k1 k2 k3 k4 k5 X1 R1 R3 R2 X2 B2 fI wD fD gB;go_loopw [11] (λav wr=>∃k:Nat,av= ac (c.blocks.getD k 0)/\Af (abI w c cb rb k wr)) (λ_ wr=>N - OG wr (an cb 2))
 .exact⟨0,by rw[pV.o],rj.o⟩
 .obtain⟨k,rfl,HS⟩:=hrel;obtain⟨Ab,ug,As,cs,ps,mC,mB,mS,mp⟩:=HS.o.mem;obtain⟨-,-,c2,c3⟩:=mm mC;obtain⟨NS,HBo,um,Hmp,HL,WU,Hk⟩:=un mC mB mS mp HS.o.low HS.o.res HS.o.le;by_cases hk:k<N
  .obtain⟨bk,sh,p1,p2,p3,p4,p5,p6⟩:=hc.o.pg k (HN.o▸hk);have pj:c.blocks.getD k 0=(bk:Int):=(by rw[Qe,p1];rfl);rw[pj];have mG:((bk:Int)==0)=false:=Xc Mx;have WB:((bk:Int)!=0)=true:=(by rw[bne,mG];rfl);have EJ:=aa (yl wr I s (H.o.on HL.o) bk p3);have IA:=Nv p1 p2 p3 p4 p5 p6;have NJ:=aa hk;clear HS mC mB mS mp p1 p2 p3 p4 p5 p6 pj hk;go_upto_region 8 with(go_at_call 64;refine EJ.o.mono ?_;rintro e W4 ⟨pv,rfl,p4,-,b4⟩;have B4:=aa b4;have HDe:=aa (Sa W4 pv _ p4 sh IA.p5);clear p4 b4);clear c2 c3;have⟨ds,TG⟩:=eX sh.depth;have⟨ns,pT⟩:=eX sh.next;have⟨ne,bT⟩:=eX sh.es.length;rw[<-TG,<-pT] at HDe;have Hsh:=iJ TG pT bT;clear TG pT bT;go_upto_region 9 with(go_at_call 69;refine HDe.o.mono ?_;rintro e W5 ⟨v5,rfl,o5,eo5,Sy,iu5,b5⟩;obtain⟨A5,c5,rfl⟩:=cV.form o5;have O5:=aa o5;have B5:=aa b5;have E5:Af ((∀x∈sh.es,eR x)/\aI ds/\bX ns):=⟨eo5,Sy,iu5⟩;clear o5 b5 eo5 Sy iu5);rw[<-Hsh.q2] at O5|-;obtain⟨W6,jc,S6,b6⟩:=nW W5 [io ds,gc ns,am A5 ne c5] 79;have⟨sb,jq⟩:=eX W5.heap.size;rw[<-jc];rw[<-jq] at S6|-;have Yl:=Pd B4.o B5.o;have B46:=Pd Yl b6;have hl4:=Qh HL.o.size B4.o.size;have P6:EN w W6 cb sb rb [ac f,ac d,am Ab k ug,am As k cs] [io ds,gc ns,am A5 ne c5] (am Ab k ug) (c.blocks.take k) (am As k cs) ps (sh,am A5 ne c5):=by
    have h1:=NS.o;rw[<-wL.p1,<-wL.q1] at h1;exact⟨h1.on B46,S6,WU.o.on B46,aB.on HBo.o B46,um.o.on B46,fB (aS O5.o b6) hl4,λe=>by
     have h2:=(Xr um.o.row sb e).2;have h3:=Yl.size;omega,Pd HL.o B46⟩
   have HP6:=aa P6;have hct:=oF W6 (am Ab k ug) (c.blocks.take k) W6 P6.bo.ns (by rw[Qu];have h1:=cC.o;have h2:=hc.o.len;omega) bk;rw[w5 hc.o.nd IA.p1] at hct;have HCt:=aa hct;have c2:=P6.c.j2;have Hsb:Af (sb≠cb/\sb≠rb):=⟨by rw[jq];exact XO (Qn NS.o.lt Yl.size),jq▸(XO (Qn WU.o.lt Yl.size))⟩;have HSh:Af (fV (sh,am A5 ne c5)=[io ds,gc ns,am A5 ne c5]/\pC sh):=⟨by rw[Hsh.p1,Hsh.p2];rfl,by rw[<-Hsh.p1];exact E5.p2,by rw[<-Hsh.p2];exact E5.q2,(GP IA.p5).2⟩;clear P6 hct jc jq b6 S6 Yl B46 hl4 HDe EJ;go_upto_region 11 with(go_at_call 70;refine PP HCt.o ?_);have wN:=aa E5.p1;have bQ:Af (k<=4096/\(c.blocks.take k).length<=10000/\ps.length<=10000):=(by have h1:=cC.o;have h2:=hc.o.len;have h3:=Hk.o;have h4:=XF List.length Hmp.o;rw[Qq,Qu] at h4;exact⟨Mx,zcK,Mx⟩);clear c2;go_cut [65] from 61 to 72 (λv65 W=>Af (∃vb vs,EN w W cb sb rb [ac f,ac d,vb,vs] [io ds,gc ns,am A5 ne c5] vb (c.blocks.take k++[(bk:Int)]) vs (ps++[(sh,am A5 ne c5)]) (sh,am A5 ne c5)))
   .refine bL (λj=>[11,12,13].contains j) (λW=>aq W cb 72 [ac f,ac d,am Ab k ug,am As k cs]/\aq W sb 79 [io ds,gc ns,am A5 ne c5]) KJ ?_;have HP7:=aa (HP6.o.on (W' :=W6.drew) (below_drewN pi 1));have⟨Wd,dJ⟩:=eX W6.drew;rw[<-dJ] at HP7|-;clear dJ;have hS:aq Wd cb 72 [ac f,ac d,am Ab k ug,am As k cs]/\aq Wd sb 79 [io ds,gc ns,am A5 ne c5]:=⟨HP7.o.c,HP7.o.s⟩;refine tKz 0 61 (ro cb 2) pm (λW hW=>zM) hS ?_;(try simp only[Act.put,Qb,Qc,Qd]);refine tKz 1 62 (am Ab k ug) pm (λW hW=>by have hx:=hW.1.j2;go_simp) hS ?_;(try simp only[Act.put,Qb,Qc,Qd]);refine tKz 2 63 (ac bk) pm (λW hW=>zM) hS ?_;(try simp only[Act.put,Qb,Qc,Qd]);refine tKz 5 66 (ro cb 3) pm (λW hW=>zM) hS ?_;(try simp only[Act.put,Qb,Qc,Qd]);refine tKz 6 67 (am As k cs) pm (λW hW=>by have hx:=hW.1.j3;go_simp) hS ?_;(try simp only[Act.put,Qb,Qc,Qd]);refine tKz 7 68 (.agg #[io ds,gc ns,am A5 ne c5]) pm (λW hW=>zaT) hS ?_;try simp only[Act.put,Qb,Qc,Qd]
    refine gR [3,4,10] [8,9] (λa0 i j a W=>∃MY MA My MX Mz vb bl vs pl,a=((((a0.put (some 64) MY).put (some 65) MA).put (some 71) My).put (some 69) MX).put (some 70) Mz/\EN w W cb sb rb [ac f,ac d,am Ab k ug,am As k cs] [io ds,gc ns,am A5 ne c5] vb bl vs pl (sh,am A5 ne c5)/\
     Ap1 3 [ac bk] W MY MA vb (am Ab k ug) (bl=c.blocks.take k) (bl=c.blocks.take k++[(bk:Int)]) i/\(3<=i->My= ro cb 2)/\Ap1 79 [io ds,gc ns,am A5 ne c5] W MX Mz vs (am As k cs) (pl=ps) (pl=ps++[(sh,am A5 ne c5)]) j) 3 rfl KJ ⟨_,_,_,_,_,_,_,_,_,amO zac,HP7.o,⟨rfl,rfl⟩,λh=>absurd h Fd,⟨rfl,rfl⟩⟩ ⟨?_,?_,?_,trivial⟩ ⟨?_,?_,trivial⟩ ?_
    .rintro j a W ⟨MY,MA,My,MX,Mz,vb,bl,vs,pl,rfl,P,⟨rfl,rfl⟩,-,HB⟩;refine bJ rfl (λK hK=> ?_);obtain⟨V,hV,X,b⟩:=nW W [ac bk] 3;simp only[Act.put,Qb,Qc,Qd];go_simp;rw[<-hV];exact hK.out _ _ ⟨λ_=>⟨(P.on b).c,(P.on b).s⟩,_,MA,My,MX,Mz,_,_,vs,pl,rfl,P.on b,⟨rfl,rfl,_,rfl,X⟩,λh=>absurd h Fd,HB.mp λg X=>X.on b⟩
    .rintro j a W ⟨MY,MA,My,MX,Mz,vb,bl,vs,pl,rfl,P,⟨rfl,rfl,g,rfl,X⟩,-,HB⟩;refine bJ rfl (λK hK=> ?_);obtain⟨v,V,r,P2,g2⟩:=P.anF bQ.p2 _ _ X 53;obtain⟨A2,m2,e2,rfl⟩:=P2.bo.bu;simp only[Act.put,Qb,Qc,Qd];refine gM (some 65) rfl zac (ea rfl rfl r) ?_;exact hK.out _ _ ⟨λ_=>⟨P2.c,P2.s⟩,_,_,My,MX,Mz,_,_,vs,pl,rfl,P2,⟨rfl,rfl,_,_,_,rfl⟩,λh=>absurd h Fd,HB.mp λg X=>X.grown g2 (λe=>aq.not_row X Fd P.bo e.symm)⟩
    .rintro j a W ⟨MY,MA,My,MX,Mz,vb,bl,vs,pl,rfl,P,HA,-,HB⟩;refine bJ rfl (λK hK=> ?_);simp only[Act.put,Qb,Qc,Qd];go_simp;exact hK.out _ _ ⟨λ_=>⟨P.c,P.s⟩,MY,MA,_,MX,Mz,vb,bl,vs,pl,rfl,P,HA,λ_=>rfl,HB⟩
    .rintro i a W ⟨MY,MA,My,MX,Mz,vb,bl,vs,pl,rfl,P,HA,H71,⟨rfl,rfl⟩⟩;refine bJ rfl (λK hK=> ?_);obtain⟨V,hV,X,b⟩:=nW W [io ds,gc ns,am A5 ne c5] 79;simp only[Act.put,Qb,Qc,Qd];go_simp;rw[<-hV];exact hK.out _ _ ⟨λ_=>⟨(P.on b).c,(P.on b).s⟩,MY,MA,My,_,Mz,vb,bl,_,_,rfl,P.on b,HA.mp λg X=>X.on b,H71,⟨rfl,rfl,_,rfl,X⟩⟩
    .rintro i a W ⟨MY,MA,My,MX,Mz,vb,bl,vs,pl,rfl,P,HA,H71,⟨rfl,rfl,g,rfl,X⟩⟩;refine bJ rfl (λK hK=> ?_);obtain⟨v,V,r,P2,g2⟩:=P.anE bQ.q2 ⟨HSh.q1,wN.o⟩ (_) (HSh.p1▸X) 70;obtain⟨A4,m4,e4,rfl⟩:=P2.so.form;simp only[Act.put,Qb,Qc,Qd];refine gM (some 70) rfl zac (ea rfl rfl r) ?_;exact hK.out _ _ ⟨λ_=>⟨P2.c,P2.s⟩,MY,MA,My,_,_,vb,bl,_,_,rfl,P2,HA.mp λg X=>X.grown g2 (λe=>aq.not_row X Fd P.so.row e.symm),H71,⟨rfl,rfl,_,_,_,rfl⟩⟩
    .rintro a W ⟨MY,MA,My,MX,Mz,vb,bl,vs,pl,rfl,P,⟨rfl,rfl,A2,m2,e2,rfl⟩,H71,⟨rfl,rfl,A4,m4,e4,rfl⟩⟩;obtain rfl:=H71 Fd;simp only[Act.put,Qb,Qc,Qd];have z2:=P.c.j2;have f2:=P.c.free 2;have P5:=P.set Hsb.p1 ahb.o Hcb.p1 2 (am A2 m2 e2);have z3:=P5.c.j3;have f3:=P5.c.free 3;have P6:=aa (P5.set Hsb.p1 ahb.o Hcb.p1 3 (am A4 m4 e4));clear P P5;refine ju 11 rfl KJ λK hK=> ?_;go_simp;refine hK.out _ _ (λh=>absurd h Fd) ?_;clear hK K;(try simp only[Act.put,Qb,Qc,Qd]);refine ju 12 rfl KJ λK hK=> ?_;go_simp;refine hK.out _ _ (λh=>absurd h Fd) ?_;clear hK K;(try simp only[Act.put,Qb,Qc,Qd]);refine ju 13 rfl KJ λK hK=> ?_;go_simp;refine hK.out _ _ (λh=>absurd h Fd) ?_;clear hK K;(try simp only[Act.put,Qb,Qc,Qd]);refine bD KJ ?_ _;go_wp2;go_meet;exact⟨_,_,P6.o⟩
   .obtain⟨vb,vs,hP⟩:=hcut.o;obtain⟨A2,m2,e2,rfl⟩:=hP.bo.bu;obtain⟨A4,m4,e4,rfl⟩:=hP.so.form;have Nf:m2=k+1:=(by obtain⟨A',c'',ee,-⟩:=hP.bo.ns.form;injection ee with _ ee;rw[ee,Qo,Qu,ZA];have h1:=(Ql.1 IA.p1).1;omega);have fc:ps.length=k:=(by have h4:=XF List.length Hmp.o;rw[Qq,Qu] at h4;have h1:=(Ql.1 IA.p4).1;omega);have hm4:m4=k+1:=(by obtain⟨A',c'',ee,-⟩:=(Sl.bU hP.so.row:Sl _ _ _ _ _ _).form;injection ee with _ ee;rw[ee,Qo,ZA,fc]);subst Nf hm4;have hST:abI w c cb rb (k+1) wc:=⟨(Ql.1 IA.p1).1,⟨A2,e2,A4,e4,ps++[(sh,am A5 ne c5)],by rw[<-wL.p1,<-wL.q1];exact hP.c,by rw[aA c.blocks k _ IA.p1];exact hP.bo,hP.so,by rw[QL,Hmp.o,aA c.ah k _ IA.p4];rfl⟩,hP.r,hP.low⟩;have HST:=aa hST;have s1:=hP.s.j1;have hnw:IntKind.i64.wrap ns=ns:=(by have h1:=HSh.p3;rw[<-Hsh.p2] at h1;unfold bX at h1;exact UV);have MT:Af (ns=c.blocks.getD (k+1) 0):=(by show _=_;rw[Hsh.p2];exact IA.q5);have Hl1:=aa (CE (hP.c.j2));have Hl0:=aa (CE (NS.o.j2));clear hST hP fc;go_wp2;exact⟨⟨k+1,by rw[MT.o],HST.o⟩,by rw[Hl1.o,Hl0.o];have:=NJ.o;omega⟩
  .have hkN:=QE (HN.o▸HS.o.le) (QC hk);have pj:c.blocks.getD k 0=0:=(by rw[Qe,QQ (by rw[hkN,HN.o];exact go)];rfl);rw[pj];have hB:aB wr w 3 .i64 (am Ab k ug) c.blocks:=(by have h1:=mB;rw[Qj (by rw[hkN,HN.o];exact go)] at h1;exact h1);have fc:ps.map Prod.fst=c.ah:=(by rw[mp,Qj (by rw[hkN,HN.o,hc.o.len];exact go)]);have hkc:=hkN.trans HN.o;have dh:ps.length=k:=(by rw[<-Qq (f:=Prod.fst),fc,<-hc.o.len,hkc]);have hCn:Uq wr wr (.agg #[ac c.ax,ac c.depth,am Ab k ug,am As k cs]) c:=⟨_,_,ps,rfl,hB.ns,mS.Wa,fc⟩;obtain⟨qc,sE⟩:c.depth<=8/\c.ax<256:=(by have SE :=hr.o;unfold dz at SE;simp only[XR,Qad] at SE;exact⟨SE.1.1.1.2,SE.1.1.2⟩);have hRi:=pJ wr c _ hCn qc sE hc.o.ne hc.o.len cC.o;rw[hr.o,<-wL.p1,<-wL.q1] at hRi;rw[<-wL.p1,<-wL.q1] at NS;obtain⟨c0,c1⟩:=gh NS.o;clear HS hk mC mB mp hkN pj hkc dh hCn qc sE;change Af _ at mS hB fc hRi;go_upto_region 15 with(go_at_call 71;refine Pe hRi.o λW7 B7=> ?_);have C7:=aa (NS.o.on B7.o);have R7:=aa (WU.o.on B7.o);obtain⟨d0,d1,d2,d3⟩:=mm C7.o;obtain⟨r0,r1,r2,r3⟩:=mm R7.o;obtain⟨f0,f1,f2,f3⟩:=WI R7.o;obtain⟨HB7,HS7,HL7⟩:=qC (aB.on hB.o B7.o) (mS.o.on B7.o) (Pd HL.o B7.o);clear c0 c1 c2 c3;go_wp2;refine Qar (cG rfl rfl (eY (oW R7.o _ _ _ _))) rfl ?_;have k7:=lO R7.o HB7.o HS7.o HL7.o (by show _<=rb;exact Hwr.o) (ac f) (ac d) (am Ab k ug) (am As k cs);exact⟨_,_,ps,rfl,k7.1,k7.2.1,fc.o,k7.2.2⟩
def bz(e:aD):Nat:=(e.print/2^56).toNat
def Ov(e:aD):Prop:=0<=e.print
def Mn{e:aD}(h:Ov e):e.print/2^56=(bz e:Int):=by unfold bz;exact(Xp (Qie h Fd)).symm
def Gz(ax dep:Nat):∀(es:List aD) (seen:List aD) (bh:Int),
  iZ ax dep 0 es (seen,bh)=if es.Nodup/\(∀e∈es,e∉seen/\bY ax dep (bz e)=true) then some (es.reverse++seen,bh) else none:=by
 intro es;induction es with
 |nil=>intro seen bh;simp[iZ]
 |cons e r ih=>
  intro seen bh;rw[pO];unfold sx;by_cases h1:e∈seen
  .rw[Xo (Or.inl h1),Xd (λh=>(h.2 e (Qm ..)).1 h1)];rfl
  .by_cases h2:bY ax dep (e.print/2^56).toNat=false
   .rw[Xo (Or.inr (Or.inl h2)),Xd (λh=>by have h3:=(h.2 e (Qm ..)).2;unfold bz at h3;rw[h2] at h3;cases h3)];rfl
   .rw[Xd (by rintro(h|h|h);exact h1 h;exact h2 h;exact absurd h.1 (XI 0)),Xd (XI 0)];show iZ ax dep 0 r (e::seen,bh)=_;rw[ih];have h2' :bY ax dep (bz e)=true:=(by simpa[bz] using h2);by_cases h:r.Nodup/\∀x∈r,x∉e::seen/\bY ax dep (bz x)=true
    .rw[Xo h,Xo]
     .simp
     .refine⟨Qez.2 ⟨λhe=>(h.2 e he).1 (Qm ..),h.1⟩,λx hx=> ?_⟩;obtain rfl|hx:=QA.1 hx
      .exact⟨h1,h2'⟩
      .exact⟨λhs=>(h.2 x hx).1 (Qs _ hs),(h.2 x hx).2⟩
    .rw[Xd h,Xd];rintro⟨g1,g2⟩;refine h ⟨(Qez.1 g1).2,λx hx=>⟨λhs=> ?_,(g2 x (Qs _ hx)).2⟩⟩;obtain rfl|hs:=QA.1 hs
     .exact(Qez.1 g1).1 hx
     .exact(g2 x (Qs _ hx)).1 hs
def GC(ax dep i:Nat)(hi:0<i):∀(es:List aD) (seen:List aD) (bh:Int),(∀e∈es,Ov e)->
  iZ ax dep i es (seen,bh)=if es.Nodup/\(∀e∈es,e∉seen/\bY ax dep (bz e)=true/\(0<=bh->bh=bz e))/\(∀e∈es,∀e'∈es,bz e=bz e') then some (es.reverse++seen,match es with|[]=>bh|e::_=>(bz e:Int)) else none:=by
 intro es;induction es with
 |nil=>intro seen bh _;simp[iZ]
 |cons e r ih=>
  intro seen bh hu;have he:=Mn (hu e (Qm ..));rw[pO];unfold sx;by_cases h1:e∈seen
  .rw[Xo (Or.inl h1),Xd (λh=>(h.2.1 e (Qm ..)).1 h1)];rfl
  .by_cases h2:bY ax dep (e.print/2^56).toNat=false
   .rw[Xo (Or.inr (Or.inl h2)),Xd (λh=>by have h3:=(h.2.1 e (Qm ..)).2.1;unfold bz at h3;rw[h2] at h3;cases h3)];rfl
   .by_cases h3:0<=bh/\bh≠e.print/2^56
    .rw[Xo (Or.inr (Or.inr ⟨hi,h3⟩)),Xd (λh=>h3.2 (by rw[he];exact(h.2.1 e (Qm ..)).2.2 h3.1))];rfl
    .rw[Xd (by rintro(h|h|h);exact h1 h;exact h2 h;exact h3 h.2),Xo hi];show iZ ax dep i r (e::seen,e.print/2^56)=_;rw[ih _ _ (λx hx=>hu x (Qs _ hx)),he];have h2' :bY ax dep (bz e)=true:=(by simpa[bz] using h2);have h3' :0<=bh->bh=bz e:=λh0=>by
      by_cases h4:bh=e.print/2^56
      .rw[<-he];exact h4
      .exact absurd ⟨h0,h4⟩ h3
     by_cases h:r.Nodup/\(∀x∈r,x∉e::seen/\bY ax dep (bz x)=true/\(0<=(bz e:Int)->(bz e:Int)=bz x))/\(∀x∈r,∀x'∈r,bz x=bz x')
     .rw[Xo h,Xo]
      .cases r with
       |nil=>simp
       |cons y r=>
        have h5:=(h.2.1 y (Qm ..)).2.2 (Xh _);simp[<-h5]
      .have h6:∀x∈r,bz e=bz x:=λx hx=>Int.natCast_inj.1 ((h.2.1 x hx).2.2 (Xh _));refine⟨Qez.2 ⟨λhm=>(h.2.1 e hm).1 (Qm ..),h.1⟩,λx hx=> ?_,λx hx x' We => ?_⟩
       .rcases QA.1 hx with rfl|hx
        .exact⟨h1,h2',h3'⟩
        .exact⟨λhs=>(h.2.1 x hx).1 (Qs _ hs),(h.2.1 x hx).2.1,λh0=>(h3' h0).trans (by rw[h6 x hx])⟩
       .rcases QA.1 hx with e1|hx<;>obtain e2|We:=QA.1 We
        .rw[e1,e2]
        .rw[e1];exact h6 x' We
        .rw[e2];exact(h6 x hx).symm
        .exact h.2.2 x hx x' We
     .rw[Xd h,Xd];rintro⟨g1,g2,g3⟩;refine h ⟨(Qez.1 g1).2,λx hx=>⟨λhs=> ?_,(g2 x (Qs _ hx)).2.1,λ_=> ?_⟩,λx hx x' We =>g3 x (Qs _ hx) x' (Qs _ We)⟩
      .rcases QA.1 hs with rfl|hs
       .exact(Qez.1 g1).1 hx
       .exact(g2 x (Qs _ hx)).1 hs
      .rw[g3 e (Qm ..) x (Qs _ hx)]
def jH(ax dep:Nat)(seen:List aD)(bh:Int)(L:List aD):Prop:=
 L.Nodup/\(∀e∈L,e∉seen/\bY ax dep (bz e)=true/\(0<=bh->bh=bz e))/\(∀e∈L,∀e'∈L,bz e=bz e')
def abm(bh:Int):List aD->Int
 |[]=>bh
 |e::_=>(bz e:Int)
def w7(ax dep:Nat)(seen:List aD)(bh:Int)(A B:List aD):jH ax dep seen bh (A++B)↔jH ax dep seen bh A/\jH ax dep (A.reverse++seen) (abm bh A) B:=by
 unfold jH;constructor
 .rintro⟨h1,h2,h3⟩;obtain⟨n1,n2,n3⟩:=List.nodup_append.1 h1;refine⟨⟨n1,λe he=>h2 e (QB _ he),λe he e' ud =>h3 e (QB _ he) e' (QB _ ud)⟩,n2,λe he=> ?_,λe he e' ud =>h3 e (QD _ he) e' (QD _ ud)⟩;have h4:=h2 e (QD _ he);refine⟨λhm=> ?_,h4.2.1,λh0=> ?_⟩
  .rcases Qz.1 hm with hm|hm
   .exact n3 e (List.mem_reverse.1 hm) e he rfl
   .exact h4.1 hm
  .cases A with
   |nil=>exact h4.2.2 h0
   |cons a A=>exact XF Nat.cast (h3 a (QB _ (Qm ..)) e (QD _ he))
 .rintro⟨⟨n1,h2,h3⟩,n2,g2,g3⟩;have hc:∀a∈A,∀b∈B,bz a=bz b:=by
   intro a ha b hb;cases A with
   |nil=>cases ha
   |cons x A=>
    have:=(g2 b hb).2.2 (by show(0:Int)<=(bz x:Int);exact Xh _);rw[h3 a ha x (Qm ..)];exact Int.natCast_inj.1 this
  refine⟨List.nodup_append.2 ⟨n1,n2,λa ha b hb e=> ?_⟩,λe he=> ?_,λe he e' ud => ?_⟩
  .subst e;exact(g2 a hb).1 (QB _ (List.mem_reverse.2 ha))
  .rcases Qz.1 he with he|he
   .exact h2 e he
   .have h5:=g2 e he;have he0:=he;refine⟨λhm=>h5.1 (QD _ hm),h5.2.1,λh0=> ?_⟩;cases A with
    |nil=>exact h5.2.2 h0
    |cons a A=>exact((h2 a (Qm ..)).2.2 h0).trans (XF Nat.cast (hc a (Qm ..) e he0))
  .rcases Qz.1 he with he|he<;>obtain ud |ud:=Qz.1 ud
   .exact h3 e he e' ud
   .exact hc e he e' ud
   .exact(hc e' ud e he).symm
   .exact g3 e he e' ud
def GA(ax dep i:Nat)(hi:0<i)(es seen:List aD)(bh:Int)(hu:∀e∈es,Ov e):
  (jH ax dep seen bh es->iZ ax dep i es (seen,bh)=some (es.reverse++seen,abm bh es))/\(¬jH ax dep seen bh es->iZ ax dep i es (seen,bh)=none):=by
 have h:=GC ax dep i hi es seen bh hu;constructor
 .intro h1;unfold jH at h1;rw[h,Xo h1];cases es<;>rfl
 .intro h1;unfold jH at h1;rw[h,Xd h1]
def Gy(ax dep:Nat):∀(ss:List ay) (i:Nat) (_:0<i) (seen:List aD) (bh:Int),(∀s∈ss,∀e∈s.es,Ov e)->
  ((iA ax dep i ss (seen,bh)).isSome=true↔(∀s∈ss,bC s=true/\s.es≠[])/\jH ax dep seen bh (ss.flatMap (·.es))):=by
 intro ss;induction ss with
 |nil=>
  intro i hi seen bh _;simp[iA,jH]
 |cons s r ih=>
  intro i hi seen bh hu;have hs:=GA ax dep i hi s.es seen bh (hu s (Qm ..));rw[lV,QH,w7];by_cases h1:bC s=false\/(0<i/\s.es=[])
  .rw[Xo h1];constructor
   .intro h;cases h
   .rintro⟨h2,-⟩;have h3:=h2 s (Qm ..);obtain h1|h1:=h1
    .rw[h3.1] at h1;cases h1
    .exact absurd h1.2 h3.2
  .rw[Xd h1];have h2:bC s=true/\s.es≠[]:=⟨by
    cases h:bC s with
    |true=>rfl
    |false=>exact absurd (Or.inl h) h1,λh=>h1 (Or.inr ⟨hi,h⟩)⟩
   by_cases h3:jH ax dep seen bh s.es
   .rw[hs.1 h3];show(iA ax dep (i+1) r (s.es.reverse++seen,abm bh s.es)).isSome=true↔_;rw[ih (i+1) (Qfz i) _ _ (λx hx=>hu x (Qs _ hx))];constructor
    .rintro⟨g1,g2⟩;refine⟨λx hx=> ?_,h3,g2⟩;obtain rfl|hx:=QA.1 hx
     .exact h2
     .exact g1 x hx
    .rintro⟨g1,-,g2⟩;exact⟨λx hx=>g1 x (Qs _ hx),g2⟩
   .rw[hs.2 h3];constructor
    .intro h;cases h
    .rintro⟨-,h,-⟩;exact absurd h h3
def ak.all(c:ak):List aD:=c.ah.flatMap (·.es)
structure zR(c:ak):Prop where
 ne:c.ah≠[]
 len:c.blocks.length=c.ah.length
 d8:c.depth<=8
 f256:c.ax<256
 mod:c.ax%2^(8 - c.depth)=0
 right:∀s∈c.ah,bC s=true
 full:∀s∈c.ah.tail,s.es≠[]
 once:c.all.Nodup
 its:∀e∈c.all,bY c.ax c.depth (bz e)=true
 one:∀e∈c.ah.tail.flatMap (·.es),∀e'∈c.ah.tail.flatMap (·.es),bz e=bz e'
def FT(c:ak)(hu:∀s∈c.ah,∀e∈s.es,Ov e):dz c=true↔zR c:=by
 unfold dz;simp only[XR,Qad];obtain⟨ax,dep,blocks,ah⟩:=c;cases ah with
 |nil=>
  constructor
  .rintro⟨⟨⟨⟨⟨h,-⟩,-⟩,-⟩,-⟩,-⟩;exact absurd rfl h
  .intro h;exact absurd rfl h.ne
 |cons s r=>
  dsimp only at hu|-;have hz:=Gz ax dep s.es [] (-1);have ht:∀i,0<i->_:=λi hi=>Gy ax dep r i hi (s.es.reverse++[]) (-1) (λx hx=>hu x (Qs _ hx));constructor
  .rintro⟨⟨⟨⟨⟨h1,h2⟩,h3⟩,h4⟩,h5⟩,h6⟩;rw[lV] at h6;by_cases h7:bC s=false\/(0<0/\s.es=[])
   .rw[Xo h7] at h6;cases h6
   .rw[Xd h7,hz] at h6;by_cases h8:s.es.Nodup/\∀e∈s.es,e∉([]:List aD)/\bY ax dep (bz e)=true
    .rw[Xo h8] at h6;obtain⟨g1,g2,g3,g4⟩:=(ht 1 Fd).1 h6;refine⟨h1,h2,h3,h4,h5,λx hx=> ?_,λx hx=>(g1 x hx).2,?_,λe he=> ?_,g4⟩
     .rcases QA.1 hx with rfl|hx
      .cases h:bC x with
       |true=>rfl
       |false=>exact absurd (Or.inl h) h7
      .exact(g1 x hx).1
     .show((s::r).flatMap (·.es)).Nodup;rw[QH];refine List.nodup_append.2 ⟨h8.1,g2,λa ha b hb e=>(g3 b hb).1 ?_⟩;subst e;exact QB _ (List.mem_reverse.2 ha)
     .have ud :e∈(s::r).flatMap (·.es):=he;rw[QH] at ud;obtain ud |ud:=Qz.1 ud
      .exact(h8.2 e ud).2
      .exact(g3 e ud).2.1
    .rw[Xd h8] at h6;cases h6
  .intro h;have bm:((s::r).flatMap (·.es)).Nodup:=h.once;have rp:∀e∈(s::r).flatMap (·.es),bY ax dep (bz e)=true:=h.its;rw[QH] at bm rp;obtain⟨n1,n2,n3⟩:=List.nodup_append.1 bm;refine⟨⟨⟨⟨⟨h.ne,h.len⟩,h.d8⟩,h.f256⟩,h.mod⟩,?_⟩;rw[lV,Xd (by rintro(h7|h7);rw[h.right s (Qm ..)] at h7;cases h7;exact absurd h7.1 (XI 0)),hz,Xo ⟨n1,λe he=>⟨QV,rp e (QB _ he)⟩⟩];refine(ht 1 Fd).2 ⟨λx hx=>⟨h.right x (Qs _ hx),h.full x hx⟩,n2,λe he=>⟨λhm=> ?_,rp e (QD _ he),λh0=>absurd h0 Fd⟩,h.one⟩;obtain hm|hm:=Qz.1 hm
   .exact n3 e (List.mem_reverse.1 hm) e he rfl
   .cases hm
variable{a b:aD}{dep ax:Nat}
def bZ(ax dep:Nat)(l:List aD)(blocks:Fr)(ah:List ay):ak:=
 if l=[]/\blocks≠[] then⟨ax,dep,blocks,ah⟩ else⟨ax,dep,0::blocks,⟨dep,blocks.headD 0,l⟩::ah⟩
def ak.first(c:ak):List aD:=(c.ah.headD ⟨0,0,[]⟩).es
def cI(half ax:Nat)(e:aD):Bool:=bz e&&&half==ax&&&half
def fR(c:ak)(half ax:Nat):ak:=
 if c.ah.tail.any (λs=>s.es.any λe=> !cI half ax e) then bZ ax (c.depth+1) (c.first.filter (cI half ax)) [] []
 else bZ ax (c.depth+1) (c.first.filter (cI half ax)) c.blocks.tail c.ah.tail
def dj(c:ak):Nat:=2^(7 - c.depth)
def dQ(c:ak):ak:=fR c (dj c) c.ax
def dd(c:ak):ak:=fR c (dj c) (c.ax+dj c)
def tr(l:List aD)(e:aD):Nat:=(l.takeWhile λa=>decide (fO a e<0)).length
def qi(l:List aD)(e:aD):List aD:=l.take (tr l e)++e::l.drop (tr l e)
def rH(c:ak)(e:aD):Bool:=c.all.all λa=>bz a==bz e
def cP:Nat->ak->aD->List ak
 |0,_,_=>[]
 |k+1,c,e=>
  if c.first.length<9 then[bZ c.ax c.depth (qi c.first e) c.blocks.tail c.ah.tail]
  else if rH c e then[bZ c.ax c.depth [e] c.blocks c.ah]
  else if bY (dQ c).ax (dQ c).depth (bz e) then cP k (dQ c) e++[dd c] else dQ c::cP k (dd c) e
def Vp:fO a b<0↔a.print<b.print\/(a.print=b.print/\a.block<b.block):=by
 unfold fO mK;by_cases h1:a.print<b.print
 .simp[h1]
 .by_cases h2:b.print<a.print
  .simp[h1,h2];omega
  .have h3:a.print=b.print:=(by omega);by_cases h4:a.block<b.block
   .simp[h3,h4]
   .by_cases h5:b.block<a.block<;>simp[h3,h4,h5]
def pM{c:aD}(h1:fO a b<0)(h2:fO b c<0):fO a c<0:=by rw[Vp] at*;omega
def ordE_total(h:¬fO a b<0)(bT:a≠b):fO b a<0:=by rw[Vp] at*;have:¬(a.print=b.print/\a.block=b.block):=λ⟨h1,h2⟩=>bT (by cases a;cases b;simp_all);omega
def nP:∀l:List aD,dV l=true↔l.Pairwise (λa b=>fO a b<0)
 |[]=>by simp[dV]
 |[a]=>by simp[dV]
 |a::b::r=>by
  rw[dV,XR,Qad,nP (b::r),List.pairwise_cons (a:=a)];constructor
  .rintro⟨h1,h2⟩;refine⟨λx hx=> ?_,h2⟩;obtain rfl|hx:=QA.1 hx
   .exact h1
   .exact pM h1 ((List.pairwise_cons.1 h2).1 x hx)
  .rintro⟨h1,h2⟩;exact⟨h1 b (Qm ..),h2⟩
def VB(l:List aD)(e:aD):tr l e<=l.length:=(List.takeWhile_sublist _).length_le
def Lz(a:aD)(r:List aD)(e:aD):qi (a::r) e=if fO a e<0 then a::qi r e else e::a::r:=by
 unfold qi tr;by_cases h:fO a e<0
 .rw[Qij EQ,Xo h];rfl
 .rw[Qik EQ,Xd h];rfl
def RH(e:aD):qi [] e=[e]:=rfl
def rV:∀(l:List aD) (e:aD),(qi l e).Perm (e::l)
 |[],e=>by rw[RH]
 |a::r,e=>by
  rw[Lz];split
  .exact((rV r e).cons a).trans (List.Perm.swap _ _ _)
  .exact Qco _
def insE_rises:∀(l:List aD) (e:aD),e∉l->dV l=true->dV (qi l e)=true:=by
 intro l;induction l with
 |nil=>intro e _ _;rfl
 |cons a r ih=>
  intro e bT h;rw[nP] at h|-;obtain⟨h1,h2⟩:=List.pairwise_cons.1 h;rw[Lz];split
  .rename_i aJ
   refine List.pairwise_cons.2 ⟨λx hx=> ?_,(nP _).1 (ih e (λhm=>bT (Qs _ hm)) ((nP r).2 h2))⟩;obtain rfl|hx:=QA.1 ((rV r e).mem_iff.1 hx)
   .exact aJ
   .exact h1 x hx
  .rename_i aJ
   have JN:=ordE_total aJ (λh=>bT (h▸(Qm ..)));refine List.pairwise_cons.2 ⟨λx hx=> ?_,h⟩;obtain rfl|hx:=QA.1 hx
   .exact JN
   .exact pM JN (h1 x hx)
def RJ(l:List aD)(e:aD):(qi l e).length=l.length+1:=by rw[(rV l e).length_eq];rfl
def lE{n:Nat}:bY ax dep n=true↔n/2^(8 - dep)=ax/2^(8 - dep):=by rw[bY,Qbq,<-Qbw,<-Qbw,<-Qbw,Qii];refine⟨λh=>Nat.eq_of_testBit_eq λi=> ?_,λh=>h▸(Nat.xor_self _)⟩;have h1:=XF (λz=>Nat.testBit z i) h;simp only[Nat.testBit_xor,Nat.zero_testBit] at h1;simpa using h1
def Mw{l:List aD}(hu:∀e∈l,bI e.print)(hd:dep<=8)(h:∀e∈l,bY ax dep (bz e)=true):kC l dep=true:=by
 unfold kC;cases l with
 |nil=>rfl
 |cons a r=>
  dsimp only;rw[Qgd,Qbq,Qbq];refine Or.inr ?_;have hl:(a::r).getLastD a∈a::r:=by
   rw[List.getLastD_cons];obtain rfl|⟨q,x,rfl⟩:=List.eq_nil_or_concat r
   .exact Qm ..
   .simp
  have h1:=lE.1 (h a (Qm ..));have h2:=lE.1 (h _ hl);have hb:∀e∈a::r,e.print.toNat/2^(64 - dep)=bz e/2^(8 - dep):=λe he=>by have h0:=(hu e he).1;unfold bz;obtain⟨n,hn⟩:∃n:Nat,e.print=n:=⟨e.print.toNat,(Xp h0).symm⟩;rw[hn,Xt,show(2:Int)^56=((2^56:Nat):Int) by decide,<-Qdw,Xt,Qbb,<-Qch];congr 2;omega
  rw[show(64 - (dep:Int)).toNat=64 - dep by omega,<-Qbw,Qii,Qbw,Qbw,hb a (Qm ..),hb _ hl,h1,h2,Nat.xor_self]
variable{e:aD}{c:ak}{l:List aD}{blocks:Fr}
structure tw(e:aD):Prop where
 u:bI e.print
 b0:e.block≠0
 b1:e.block<4096
def CB{α:Type}{p:α->Bool}{l:List α}{a:α}(h:a∈l.filter p):a∈l:=(Qia.1 h).1
def all_cons(c:ak)(s:ay)(r:List ay)(h:c.ah=s::r):c.all=s.es++r.flatMap (·.es)/\c.first=s.es:=by unfold ak.all ak.first;rw[h];exact⟨QH,rfl⟩
def lu(ax dep:Nat)(l:List aD)(blocks:Fr)(ah:List ay):(bZ ax dep l blocks ah).all=l++ah.flatMap (·.es):=by
 unfold bZ;split
 .rename_i h
  rw[h.1];rfl
 .rfl
def se(ax dep:Nat)(l:List aD)(blocks:Fr)(ah:List ay):(bZ ax dep l blocks ah).ax=ax/\(bZ ax dep l blocks ah).depth=dep:=by unfold bZ;split<;>exact⟨rfl,rfl⟩
def Dg(ax dep:Nat)(l:List aD)(blocks:Fr)(ah:List ay)(hd:dep<=8)(hf:ax<256)(hm:ax%2^(8 - dep)=0)(hl:l.length<=9)(hr:dV l=true)(hg:∀e∈l,tw e)
  (fg:blocks.length=ah.length) (hb:blocks.headD 0<4096) (hs:∀s∈ah,bC s=true/\s.es≠[]) (N1:∀e∈ah.flatMap (·.es),∀e'∈ah.flatMap (·.es),bz e=bz e')
  (bm:(l++ah.flatMap (·.es)).Nodup) (rp:∀e∈l++ah.flatMap (·.es),bY ax dep (bz e)=true):zR (bZ ax dep l blocks ah):=by
 have ha:=lu ax dep l blocks ah;have tD :=se ax dep l blocks ah;have⟨c,hc⟩:=eX (bZ ax dep l blocks ah);rw[<-hc] at ha tD|-;have key:c.ah≠[]/\c.blocks.length=c.ah.length/\(∀s∈c.ah,bC s=true)/\∀s∈c.ah.tail,s∈ah:=by
  rw[hc];unfold bZ;split
  .rename_i h
   refine⟨λh2=>h.2 (List.length_eq_zero_iff.1 ?_),fg,λs h2=>(hs s h2).1,λs h2=>Qgh h2⟩;have h2' :ah=[]:=h2;rw[fg,h2'];rfl
  .refine⟨List.cons_ne_nil _ _,by simp[fg],λs h2=> ?_,λs h2=>h2⟩;obtain rfl|h2:=QA.1 h2
   .unfold bC;have h3:=Mw (λe he=>(hg e he).u) hd (λe he=>rp e (QB _ he));simp only[XR,Qad,XT];exact⟨⟨⟨⟨⟨Mx,hb⟩,hl⟩,λe he=>⟨(hg e he).b0,(hg e he).b1⟩⟩,hr⟩,h3⟩
   .exact(hs s h2).1
 refine⟨key.1,key.2.1,by rw[tD.2];exact hd,by rw[tD.1];exact hf,by rw[tD.1,tD.2];exact hm,key.2.2.1,λs h=>(hs s (key.2.2.2 s h)).2,by rw[ha];exact bm,λe he=>by rw[tD.1,tD.2];rw[ha] at he;exact rp e he,λe he e' ud => ?_⟩;obtain⟨s,h1,h2⟩:=QT.1 he;obtain⟨s',h3,h4⟩:=QT.1 ud;exact N1 e (QT.2 ⟨s,key.2.2.2 s h1,h2⟩) e' (QT.2 ⟨s',key.2.2.2 s' h3,h4⟩)
def Jz(n k:Nat):n&&&2^k=(n/2^k%2)*2^k:=by
 have h:n/2^k%2=0\/n/2^k%2=1:=Mx;refine Nat.eq_of_testBit_eq λi=> ?_;rw[Nat.testBit_and,Nat.testBit_two_pow];have ht:n.testBit k=decide (n/2^k%2=1):=Nat.testBit_eq_decide_div_mod_eq;by_cases hi:k=i
 .subst hi;rw[ht];obtain h|h:=h<;>rw[h]<;>simp
 .rcases h with h|h<;>rw[h]<;>simp[hi]
def Rs{k:Nat}:cI (2^k) ax e=true↔bz e/2^k%2=ax/2^k%2:=by rw[cI,Qbq,Jz,Jz];exact Nat.mul_left_inj (XO (Qdy Fd))
def qO(hd:dep<8)(hf:ax<256)(hm:ax%2^(8 - dep)=0):2^(8 - dep)=2^(7 - dep)*2/\ax%2^(7 - dep)=0/\(ax+2^(7 - dep))%2^(7 - dep)=0/\ax+2^(7 - dep)<256/\
  ax/2^(7 - dep)%2=0/\(ax+2^(7 - dep))/2^(7 - dep)=ax/2^(7 - dep)+1:=by
 have h1:2^(8 - dep)=2^(7 - dep)*2:=by rw[<-Nat.pow_succ];congr 1;omega
 have hp:0<2^(7 - dep):=Qdy Fd;have J4:2^(7 - dep)*2*2^dep=256:=by rw[<-h1,<-Qch,show 8 - dep+dep=8 by omega]
 rw[h1] at hm;obtain⟨q,hq⟩:=Qfw hm;generalize 2^(7 - dep)=p at*;have h2:ax=p*(2*q):=by rw[hq,Nat.mul_assoc]
 have aJ:q<2^dep:=by
  have:p*2*q<p*2*2^dep:=by rw[<-hq,J4];exact hf
  exact Nat.lt_of_mul_lt_mul_left this
 refine⟨h1,by rw[h2];exact Qhd _ _,by rw[h2,Nat.add_mod_right];exact Qhd _ _,?_,?_,?_⟩
 .have:p*2*(q+1)<=p*2*2^dep:=Qex _ aJ;rw[J4,Nat.mul_succ,<-hq] at this;omega
 .rw[h2,Qfr _ hp];omega
 .exact Nat.add_div_right _ hp
def Ce{n:Nat}(hd:dep<8)(hf:ax<256)(hm:ax%2^(8 - dep)=0)(h:bY ax dep n=true):
  (bY ax (dep+1) n=true↔n/2^(7 - dep)%2=0)/\(bY (ax+2^(7 - dep)) (dep+1) n=true↔n/2^(7 - dep)%2=1):=by
 obtain⟨h1,h2,h3,h4,h5,h6⟩:=qO hd hf hm;rw[lE] at h;rw[lE,lE,show 8 - (dep+1)=7 - dep by omega,h6];rw[h1,<-Qbb,<-Qbb] at h;generalize n/2^(7 - dep)=x at*;generalize ax/2^(7 - dep)=y at*;omega
structure ur(c:ak):Prop where
 ok:zR c
 ent:∀e∈c.all,tw e
 Ej:∀x∈c.blocks,0<=x/\x<4096
def ur.cons(h:ur c):∃s r b br,c.ah=s::r/\c.blocks=b::br/\br.length=r.length/\c.all=s.es++r.flatMap (·.es)/\c.first=s.es:=by
 have h1:=h.ok.ne;have h2:=h.ok.len;cases hs:c.ah with
 |nil=>exact absurd hs h1
 |cons s r=>
  rw[hs] at h2;cases hb:c.blocks with
  |nil=>rw[hb] at h2;cases h2
  |cons b br=>
   rw[hb] at h2;have h3:=all_cons c s r hs;exact⟨s,r,b,br,rfl,rfl,zbO,h3.1,h3.2⟩
def fZ{s:ay}(h:bC s=true):s.es.length<=9/\dV s.es=true/\s.next<4096:=by unfold bC at h;simp only[XR,Qad] at h;exact⟨h.1.1.1.2,h.1.2,h.1.1.1.1.2⟩
def yV{ah:List ay}(h:∀x∈blocks,0<=x/\x<4096):∀x∈(bZ ax dep l blocks ah).blocks,0<=x/\x<4096:=by
 unfold bZ;split
 .exact h
 .intro x hx;obtain rfl|hx:=QA.1 hx
  .decide
  .exact h x hx
def RL(h:∀x∈blocks,0<=x/\x<4096):blocks.headD 0<4096:=by
 cases blocks with
 |nil=>decide
 |cons b r=>exact(h b (Qm ..)).2
def zX(p:aD->Bool)(h:dV l=true):dV (l.filter p)=true:=by rw[nP] at*;exact h.filter p
def CA(h:ur c)(hd:c.depth<8)(hf:ax=c.ax\/ax=c.ax+dj c):∀e∈c.all,(cI (dj c) ax e=true↔bY ax (c.depth+1) (bz e)=true):=by
 intro e he;obtain⟨h1,h2⟩:=Ce hd h.ok.f256 h.ok.mod (h.ok.its e he);obtain⟨g1,g2,g3,g4,g5,g6⟩:=qO hd h.ok.f256 h.ok.mod;unfold dj at*;rw[Rs];obtain rfl|rfl:=hf
 .rw[h1,g5]
 .rw[h2,g6];omega
def zE(c:ak)(half ax:Nat)(s:ay)(r:List ay)(b:Int)(br:Fr)(hs:c.ah=s::r)(hb:c.blocks=b::br):
  ((r.any λs=>s.es.any λe=> !cI half ax e)=true->fR c half ax=bZ ax (c.depth+1) (s.es.filter (cI half ax)) [] [])/\
  (¬(r.any λs=>s.es.any λe=> !cI half ax e)=true->fR c half ax=bZ ax (c.depth+1) (s.es.filter (cI half ax)) br r):=by
 obtain⟨f,d,bl,sh⟩:=c;dsimp only at hs hb;subst hs hb;exact⟨λh=>Xo h,λh=>Xd h⟩
def uX(h:ur c)(hd:c.depth<8)(hf:ax=c.ax\/ax=c.ax+dj c):(fR c (dj c) ax).all=c.all.filter (cI (dj c) ax)/\(fR c (dj c) ax).ax=ax/\(fR c (dj c) ax).depth=c.depth+1:=by
 obtain⟨s,r,b,br,hs,hb,hl,ha,Bq⟩:=h.cons;have N1:=h.ok.one;have hm:=CA h hd hf;rw[ha];rw[ha] at hm;rw[hs] at N1;have MC:=zE c (dj c) ax s r b br hs hb;rw[Qbh];simp only[List.tail_cons] at N1;by_cases uC:(r.any λs=>s.es.any λe=> !cI (dj c) ax e)=true
 .rw[MC.1 uC];refine⟨?_,se ..⟩;rw[lu];congr 1;obtain⟨t,ht,h2⟩:=Xb.1 uC;obtain⟨a,ha',h3⟩:=Xb.1 h2;have UG:=QT.2 ⟨t,ht,ha'⟩;symm;refine List.filter_eq_nil_iff.2 λe he h4=> ?_;have h5:cI (dj c) ax a=true:=by have e1:=N1 e he a UG;unfold cI at h4|-;rw[<-e1];exact h4
  rw[h5] at h3;cases h3
 .rw[MC.2 uC];refine⟨?_,se ..⟩;rw[lu];congr 1;symm;refine List.filter_eq_self.2 λe he=> ?_;obtain⟨t,ht,h2⟩:=QT.1 he;cases h3:cI (dj c) ax e with
  |true=>rfl
  |false=>exact absurd (Xb.2 ⟨t,ht,Xb.2 ⟨e,h2,by rw[h3];rfl⟩⟩) uC
def Jb(h:ur c)(hd:c.depth<8)(hf:ax=c.ax\/ax=c.ax+dj c):ur (fR c (dj c) ax):=by
 obtain⟨s,r,b,br,hs,hb,hl,ha,Bq⟩:=h.cons;have bm:=uX h hd hf;have hm:=CA h hd hf;obtain⟨g1,g2,g3,g4,g5,g6⟩:=qO hd h.ok.f256 h.ok.mod;have sE:ax<256:=by
  obtain rfl|rfl:=hf
  .exact h.ok.f256
  .exact g4
 have ago:ax%2^(8 - (c.depth+1))=0:=by
  rw[show 8 - (c.depth+1)=7 - c.depth by omega];obtain rfl|rfl:=hf
  .exact g2
  .exact g3
 have UL:∀e∈(fR c (dj c) ax).all,tw e:=λe he=>h.ent e (CB (bm.1▸he));have bO:∀x∈br,0<=x/\x<4096:=λx hx=>h.Ej x (hb▸(Qs _ hx));have AQ:=fZ (h.ok.right s (hs▸(Qm ..)));have ar3:=bm.1;have rp:∀e∈(fR c (dj c) ax).all,bY ax (c.depth+1) (bz e)=true:=λe he=>by rw[bm.1] at he;obtain⟨h1,h2⟩:=Qia.1 he;exact(hm e h1).1 h2
 have im:(fR c (dj c) ax).all.Nodup:=bm.1▸(h.ok.once.filter _);have Ir:(c.first.filter (cI (dj c) ax)).length<=9:=Qh (Qby _ _) (by rw[Bq];exact AQ.1);have eo:dV (c.first.filter (cI (dj c) ax))=true:=zX _ (by rw[Bq];exact AQ.2.1);have hfg:∀e∈c.first.filter (cI (dj c) ax),tw e:=λe he=>h.ent e (by rw[ha];exact QB _ (by rw[<-Bq];exact CB he));have MC:=zE c (dj c) ax s r b br hs hb;rw[Bq] at Ir eo hfg;by_cases uC:(r.any λs=>s.es.any λe=> !cI (dj c) ax e)=true
 .rw[MC.1 uC] at UL rp im|-;rw[lu] at rp im;exact⟨Dg _ _ _ _ _ hd sE ago Ir eo hfg rfl Fd (λs hs=>by cases hs) (λe he=>zbs) im rp,UL,yV (λx hx=>zdM)⟩
 .rw[MC.2 uC] at UL rp im|-;rw[lu] at rp im;exact⟨Dg _ _ _ _ _ hd sE ago Ir eo hfg hl (RL bO) (λt ht=>⟨h.ok.right t (hs▸(Qs _ ht)),h.ok.full t (hs▸ht)⟩) (by have:=h.ok.one;rw[hs] at this;exact this) im rp,UL,yV bO⟩
def xu(h:ur c)(hd:8<=c.depth)(hi:bY c.ax c.depth (bz e)=true):rH c e=true:=by have h8:=QE h.ok.d8 hd;rw[rH,XT];intro a ha;have h1:=lE.1 (h.ok.its a ha);have h2:=lE.1 hi;rw[h8] at h1 h2;simp at h1 h2;rw[Qbq,h1,h2]
def added_ok:∀(k:Nat) (c:ak) (e:aD),ur c->9<=c.depth+k->tw e->e∉c.all->bY c.ax c.depth (bz e)=true->
  (∀c'∈cP k c e,ur c')/\((cP k c e).flatMap (·.all)).Perm (e::c.all):=by
 intro k;induction k with
 |zero=>exact zfD
 |succ k ih=>
  intro c e h h9 he bT rp;obtain⟨s,r,b,br,hs,hb,hl,ha,Bq⟩:=h.cons;have bO:∀x∈br,0<=x/\x<4096:=λx hx=>h.Ej x (hb▸(Qs _ hx));have AQ:=fZ (h.ok.right s (hs▸(Qm ..)));unfold cP;by_cases h1:c.first.length<9
  .rw[Xo h1];have hp:(qi c.first e++r.flatMap (·.es)).Perm (e::c.all):=(by rw[ha,Bq];exact(rV s.es e).append_right _);have bm:(bZ c.ax c.depth (qi c.first e) c.blocks.tail c.ah.tail).all=qi c.first e++r.flatMap (·.es):=(by rw[lu,hs];rfl);refine⟨λc' TJ => ?_,?_⟩
   .rw[Qx] at TJ;subst TJ;refine⟨Dg _ _ _ _ _ h.ok.d8 h.ok.f256 h.ok.mod (by rw[RJ];omega) (insE_rises _ _ (λhm=>bT (by rw[ha,<-Bq];exact QB _ hm)) (Bq▸AQ.2.1)) (λa ha' => ?_) (by rw[hs,hb];exact hl) (hb▸(RL bO)) (λt ht=> ?_) h.ok.one ?_ (λa ha' => ?_),λa ha' => ?_,yV (hb▸bO)⟩
    .rcases QA.1 ((rV _ _).mem_iff.1 ha') with rfl|h2
     .exact he
     .exact h.ent a (by rw[ha,<-Bq];exact QB _ h2)
    .rw[hs] at ht;exact⟨h.ok.right t (hs▸(Qs _ ht)),h.ok.full t (hs▸ht)⟩
    .rw[hs];exact hp.nodup_iff.2 (Qez.2 ⟨bT,h.ok.once⟩)
    .rw[hs] at ha';obtain rfl|h2:=QA.1 (hp.mem_iff.1 ha')
     .exact rp
     .exact h.ok.its a h2
    .rw[bm] at ha';obtain rfl|h2:=QA.1 (hp.mem_iff.1 ha')
     .exact he
     .exact h.ent a h2
   .rw[Qan,bm];exact hp
  .rw[Xd h1];by_cases h2:rH c e=true
   .rw[Xo h2];have EC:∀a∈c.all,bz a=bz e:=λa ha' =>(by unfold rH at h2;exact Qbq.1 (XT.1 h2 a ha'));have bm:(bZ c.ax c.depth [e] c.blocks c.ah).all=e::c.all:=(by rw[lu];rfl);refine⟨λc' TJ => ?_,?_⟩
    .rw[Qx] at TJ;subst TJ;refine⟨Dg _ _ _ _ _ h.ok.d8 h.ok.f256 h.ok.mod Sv rfl (λa ha' =>by rw[Qx] at ha';rw[ha'];exact he) h.ok.len (RL h.Ej) (λt ht=>⟨h.ok.right t ht,?_⟩) (λa ha' a' EB =>(EC a ha').trans (EC a' EB).symm) (Qez.2 ⟨bT,h.ok.once⟩) (λa ha' => ?_),λa ha' => ?_,yV h.Ej⟩
     .rw[hs] at ht;obtain rfl|ht:=QA.1 ht
      .intro h3;rw[Bq,h3] at h1;exact h1 Fd
      .exact h.ok.full t (hs▸ht)
     .rcases QA.1 ha' with rfl|h3
      .exact rp
      .exact h.ok.its a h3
     .rw[bm] at ha';obtain rfl|h3:=QA.1 ha'
      .exact he
      .exact h.ent a h3
    .rw[Qan,bm]
   .rw[Xd h2];have hd:=Qdd λh8=>h2 (xu h h8 rp);have hL:=Jb h hd (ax:=c.ax) (Or.inl rfl);have hR:=Jb h hd (ax:=c.ax+dj c) (Or.inr rfl);have aL:=uX h hd (ax:=c.ax) (Or.inl rfl);have aR:=uX h hd (ax:=c.ax+dj c) (Or.inr rfl);have hperm:((dQ c).all++(dd c).all).Perm c.all:=(by unfold dQ dd;rw[aL.1,aR.1];have h3:c.all.filter (cI (dj c) (c.ax+dj c))=c.all.filter (λa=> !cI (dj c) c.ax a):=(by refine Qhh λa ha' => ?_;have e1:=CA h hd (ax:=c.ax) (Or.inl rfl) a ha';have e2:=CA h hd (ax:=c.ax+dj c) (Or.inr rfl) a ha';obtain⟨q1,q2⟩:=Ce hd h.ok.f256 h.ok.mod (h.ok.its a ha');unfold dj at*;rw[q1] at e1;rw[q2] at e2;rw[XD,Qfn,<-Qer,e1,e2];omega);rw[h3];exact Qjc _ _);obtain⟨q1,q2⟩:=Ce hd h.ok.f256 h.ok.mod rp;have hmL:∀a∈(dQ c).all,a∈c.all:=λa ha' =>CB (aL.1▸ha');have hmR:∀a∈(dd c).all,a∈c.all:=λa ha' =>CB (aR.1▸ha');by_cases h3:bY (dQ c).ax (dQ c).depth (bz e)=true
    .rw[Xo h3];obtain⟨i1,i2⟩:=ih (dQ c) e hL (by have:=aL.2.2;unfold dQ;omega) he (λhm=>bT (hmL e hm)) h3;refine⟨λc' TJ => ?_,?_⟩
     .rcases Qz.1 TJ with h4|h4
      .exact i1 c' h4
      .rw[Qx] at h4;subst h4;exact hR
     .rw[QP,Qan];exact(i2.append_right _).trans (hperm.cons e)
    .rw[Xd h3];have h4:bY (dd c).ax (dd c).depth (bz e)=true:=(by unfold dQ at h3;unfold dd;rw[aL.2.1,aL.2.2,q1] at h3;rw[aR.2.1,aR.2.2];unfold dj;rw[q2];omega);obtain⟨i1,i2⟩:=ih (dd c) e hR (by have:=aR.2.2;unfold dd;omega) he (λhm=>bT (hmR e hm)) h4;refine⟨λc' TJ => ?_,?_⟩
     .rcases QA.1 TJ with h5|h5
      .subst h5;exact hL
      .exact i1 c' h5
     .rw[QH];exact(i2.append_left _).trans (Qht.trans (hperm.cons e))
structure MU(s:aX)(dep:Nat)(ae:List (Nat×Int))(at_:Fr)(cs:List ak):Prop where
 dir:BW s dep ae at_
 len:cs.length=ae.length
 ch:∀(j:Nat) (sg:Nat×Int) (c:ak),ae[j]? =some sg->cs[j]? =some c->JA s c/\dz c=true/\c.blocks.getD 0 0=sg.2/\c.ax=aC ae j*2^(8 - dep)/\∃e,e<=dep/\sg.1=2^e/\c.depth=dep - e
 nd:(cs.flatMap (·.blocks)).Nodup
 many:(cs.flatMap (·.blocks)).length<=4096
def fL:∀(cs:List ak) (c:ak),c∈cs->c.blocks.length<=(cs.flatMap (·.blocks)).length
 |[],_,h=>zaY
 |a::r,c,h=>by
  rw[QH,Qo];obtain rfl|h:=QA.1 h
  .exact XM _ _
  .exact Qh (fL r c h) (Nat.le_add_left _ _)
def MU.at_seg{s:aX}{ae:List (Nat×Int)}{at_:Fr}{cs:List ak}(h:MU s dep ae at_ cs){j:Nat}{sg:Nat×Int}(hj:ae[j]? =some sg):∃c,cs[j]? =some c:=
 ⟨_,Qf (by rw[h.len];exact(Ql.1 hj).1)⟩
def CF{e x i n:Nat}(he:e<=dep)(hd:dep<=8)(hx:x%2^e=0)(hi:i<2^e)(hn:n/2^(8 - dep)=x+i):bY (x*2^(8 - dep)) (dep - e) n=true:=by rw[lE,show 8 - (dep - e)=8 - dep+e by omega,Qch,<-Qbb,<-Qbb,hn,Nat.mul_div_cancel _ (Qdy Fd)];obtain⟨q,hq⟩:=Qfw hx;rw[hq,Qfr _ (Qdy Fd),Nat.mul_add_div (Qdy Fd),Nat.div_eq_of_lt hi];rfl
def FE{p:Int}(hp:bI p)(hd:dep<=8):∃n:Nat,p/2^(64 - dep)=(n:Int)/\n<2^dep/\(p/2^56).toNat/2^(8 - dep)=n:=by
 obtain⟨k,hk⟩:∃k:Nat,p=k:=⟨p.toNat,(Xp hp.1).symm⟩;have aJ:k<2^64:=by have:=hp.2;rw[hk] at this;omega
 refine⟨k/2^(64 - dep),by rw[hk,show((2:Int)^(64 - dep))=((2^(64 - dep):Nat):Int) from(Qdn 2 _).symm,<-Qdw],?_,?_⟩
 .refine(Qdk (Qdy Fd)).2 ?_;rw[<-Qch,show dep+(64 - dep)=64 by omega];exact aJ
 .rw[hk,show(2:Int)^56=((2^56:Nat):Int) by decide,<-Qdw,Xt,Qbb,<-Qch,show 56+(8 - dep)=64 - dep by omega]
def ChR(w:Wo)(c:ak)(e:Ending)(w' :Wo):Prop:=
 ∃bv sv ps,e= .returned (.tuple #[.agg #[.int .i64 c.ax,.int .i64 c.depth,bv,sv],.int .i64 0])/\aB w' w 3 .i64 bv c.blocks/\gj w' w sv ps/\ps.map Prod.fst=c.ah/\Below w w w'
def nR(w:Wo)(I:bF)(s:aX)(h:cR w I s)(dep:Nat)(ae:List (Nat×Int))(at_:Fr)(cs:List ak)(hk:MU s dep ae at_ cs)(dv:Va)(ue:Ns w w .u16 dv (expand ae))(j i:Nat)(sg:Nat×Int)(c:ak)(hj:ae[j]? =some sg)(hc:cs[j]? =some c)(hi:i<sg.1):
  Calls prog 22 #[I.b,.agg #[io dep,dv],ac (aC ae j+i:Nat)] w (ChR w c):=by
 obtain⟨h1,h2,h3,h4,e,h5,h6,h7⟩:=hk.ch j sg c hj hc;exact GZ w I s h dep ae hk.dir.oH dv ue j i e sg hj hi h6 c h1 h4 h7 h3 h2 (h1.len▸(Qh (fL cs c (Qi hc)) hk.many))
def gj.low{w:Wo}{b b' :Nat}{v:Va}{ps:List (ay×Va)}(h:gj w b v ps)(hb:b'<=b):gj w b' v ps:=⟨fB h.row hb,λp hp=>⟨fB (h.es p hp).1 hb,(h.es p hp).2⟩⟩
def sX(w:Wo)(I:bF)(s:aX)(h:cR w I s)(dep:Nat)(ae:List (Nat×Int))(at_:Fr)(cs:List ak)(hk:MU s dep ae at_ cs)(p:Int)(hp:bI p):
  ∃(j:Nat) (c:ak),cs[j]? =some c/\bY c.ax c.depth (p/2^56).toNat=true/\Calls prog 24 #[I.b,ip p] w (ChR w c):=by
 obtain⟨n,n1,n2,n3⟩:=FE hp hk.dir.oH.d8;obtain⟨j,sg,i,hj,hi,Wp⟩:=lo ae n (by rw[hk.dir.oH.sum];exact n2);obtain⟨c,hc⟩:=hk.at_seg hj;obtain⟨-,-,-,h4,e,h5,h6,h7⟩:=hk.ch j sg c hj hc;refine⟨j,c,hc,?_,?_⟩
 .rw[h4,h7];obtain⟨e',-,g2,g3⟩:=hk.dir.oH.two j sg hj;refine CF h5 hk.dir.oH.d8 (by rw[<-h6];exact g3) (by rw[<-h6];exact hi) (n3.trans Wp)
 .have Td:=aa (oz w I s h dep ae at_ hk.dir);have HK:=aa hk;have Ye:Af (∀(W:Wo) v,Ns W W .u16 v (expand ae)->Calls prog 73 #[.agg #[io dep,v],ip p] W (iF (.tuple #[ac (aC ae j+i:Nat),ac 0]) λw' =>ci W w')):=λW v hv=>by have h8:=VU W dep ae hk.dir.oH v hv p hp;rw[n1,Wp] at h8;exact h8
  have Ep:Af (∀(W:Wo) v,cR W I s->Ns W W .u16 v (expand ae)->Calls prog 22 #[I.b,.agg #[io dep,v],ac (aC ae j+i:Nat)] W (ChR W c)):=λW v hB hv=>nR W I s hB dep ae at_ cs hk v hv j i sg c hj hc hi;have H:=aa h;have⟨q,hq⟩:=eX (aC ae j+i);rw[<-hq] at Ye Ep;obtain⟨W0,aY,R0,B0⟩:=nW w [ac 0,ac 0,(),()] 72;have tI:=aa R0;have mV:=aa B0;have fD:=aa aY.symm;have anZ:=aa (oz W0 I s (h.on B0) dep ae at_ hk.dir);clear h hk n1 n2 n3 hj hi Wp hc h4 h5 h6 h7 hq aY R0 B0 Td;go_in;go_upto_region 1 with fail;rw[fD.o];go_upto_region 2 with(go_at_call 21;refine anZ.o.mono ?_;rintro e W2 ⟨dv,av,rfl,d2,a2,b2⟩;obtain⟨Ad,nd,cd,rfl⟩:=d2.bu;obtain⟨Aa,na,ca,rfl⟩:=a2.bu;have D2:=aa d2;have B2:=aa b2;clear d2 a2 b2);obtain⟨W3,cD,X3,b3⟩:=nW W2 [io dep,am Ad nd cd] 66;have⟨db,iU⟩:=eX W2.heap.size;rw[<-cD];rw[<-iU] at X3|-;obtain⟨x0,x1⟩:=gh X3;have Em:=aa X3;have py:=aa (Pd mV.o (Pd B2.o b3));have R3:=aa (tI.o.on (Pd B2.o b3));have D3:=aa ((aB.on D2.o b3).ns);have HA3:=aa (Ye.o W3 _ D3.o);clear cD iU b3 X3 Ye;go_upto_region 5 with(go_at_call 73;refine HA3.o.mono ?_;rintro e W4 ⟨rfl,b4⟩;have B4:=aa b4;have y0:=(Em.o.on b4).j0;have y1:=(Em.o.on b4).j1;clear b4);have Ut:=aa (Pd py.o B4.o);have R4:=aa (R3.o.on B4.o);have D4:=Sl.more (Sl.below D3.o B4.o) B4.o.size;have HC4:=aa (Ep.o W4 _ (H.o.on Ut.o) D4);clear x0 x1 D4 Ep HA3;go_wp2_with(go_at_call 22;refine HC4.o.mono ?_;rintro e W5 ⟨bv,sv,ps,rfl,bo5,so5,ps5,b5⟩;obtain⟨Ab,nb,cb,rfl⟩:=bo5.bu;obtain⟨As,ns,ks,rfl⟩:=so5.form;have r5:=R4.o.on b5;have r0:=r5.j0;have r1:=r5.j1;have r2:=r5.j2;have r3:=r5.j3;have f0:=r5.free 0;have f1:=r5.free 1;have f2:=r5.free 2;have f3:=r5.free 3;have R5:=aa r5;have BO5:=aa bo5;have SO5:=aa so5;have PS5:=aa ps5;have B5:=aa (Pd Ut.o b5);clear bo5 so5 ps5 b5 r5);refine Qar (cG rfl rfl (eY (oW R5.o _ _ _ _))) rfl ?_;have k7:=lO R5.o BO5.o SO5.o B5.o go (ac c.ax) (ac c.depth) (am Ab nb cb) (am As ns ks);exact⟨_,_,ps,rfl,k7.1.low Ut.o.size,k7.2.1.low Ut.o.size,PS5.o,k7.2.2⟩
end
section
variable {α β : Type}
def foldI{α β:Type}(f:β->Nat->α->β):Nat->List α->β->β
 |_,[],b=>b
 |i,a::r,b=>foldI f (i+1) r (f b i a)
def mg(f:β->Nat->α->β):∀(l r:List α) (i:Nat) (b:β),foldI f i (l++r) b=foldI f (i+l.length) r (foldI f i l b)
 |[],r,i,b=>rfl
 |a::l,r,i,b=>by show foldI f (i+1) (l++r) (f b i a)=_;rw[mg f l r (i+1) (f b i a)];show foldI f (i+1+l.length) r _=foldI f (i+(l.length+1)) r _;rw[show i+1+l.length=i+(l.length+1) by omega];rfl
def lW(f:β->Nat->α->β)(l:List α)(k:Nat)(x:α)(h:l[k]? =some x)(b:β):foldI f 0 (l.take (k+1)) b=f (foldI f 0 (l.take k) b) k x:=by obtain⟨hk,rfl⟩:=Ql.1 h;rw[XJ hk,mg,Qu,Zh (QX hk),QR];rfl
structure aM where
 block:Int
 depth:Nat
 ao:Nat
deriving DecidableEq
def uH(dep:Nat)(ae:List (Nat×Int)):List aM:=ae.flatMap λsg=>replicate sg.1 ⟨sg.2,dep - sg.1.log2,0⟩
def bc(dep:Nat)(ae:List (Nat×Int)):List aM:=(range 256).map λn=>(uH dep ae).getD (n/2^(8 - dep)) ⟨0,0,0⟩
def gL(l:List ak)(n:Nat):Nat:=l.countP λc=>bY c.ax c.depth n
def dF(l:List ak):List Nat:=(range 256).map (gL l)
def abL(gone:List ak):Int->Option ay:=(gone.flatMap λc=>c.blocks.zip c.ah).foldl (λm p=>eM m p.1 p.2) (λ_=>none)
def bV(c:ak)(st:Option (Int->Option ay))(i:Nat)(p:Int×ay):Option (Int->Option ay):=
 match st with
 |none=>none
 |some m=>
  if p.1=0 then some m
  else match m p.1 with
  |none=>none
  |some s=>if s=p.2/\s.next=c.blocks.getD (i+1) 0 then some (mX m p.1) else none
def IK(st:Option (Int->Option ay))(c:ak):Option (Int->Option ay):=foldI (bV c) 0 (c.blocks.zip c.ah) st
def mu(gone ao:List ak):Option (Int->Option ay):=ao.foldl IK (some (abL gone))
def mr(gone ao:List ak):Bool:=(mu gone ao).isSome
def Bf(cs:List ak)(n:Nat):Option ak:=cs.find? λc=>bY c.ax c.depth n
def kW(cs gone ao:List ak):Bool:=
 (gone.all λc=>dz c&&decide (Bf cs c.ax=some c))&&ao.all dz&&decide (dF gone=dF ao)&&((dF ao).all λk=>decide (k<=1))&&mr gone ao
def fE(cells:List aM)(i:Nat)(c:ak):List aM:=cells.mapIdx λn x=>if bY c.ax c.depth n then⟨c.blocks.getD 0 0,c.depth,i+1⟩ else x
def cJ(cells:List aM)(ao:List ak):List aM:=foldI fE 0 ao cells
def dD(ao:List ak):List Int:=ao.flatMap (·.blocks)
def iY(gone ao:List ak):List Int:=gone.flatMap λc=>c.blocks.filter λx=> !((dD ao).contains x)
def jC(cells:List aM):Nat:=cells.foldl (λm c=>max m c.depth) 0
def dS(dep:Nat)(cells:List aM):List Int:=(range (2^dep)).map λslot=>(cells.getD (slot*2^(8 - dep)) ⟨0,0,0⟩).block
def kB(n:Nat):Nat:=(aR n).toNat
def qv(at_ wG bP:Fr)(i:Nat):Int:=
 if i<at_.length/\ !((bG bP i).contains 0)/\bG bP i=bG wG i then at_.getD i 0 else 0
def jF(at_ wG bP:Fr):List Int:=(range (kB bP.length)).map (qv at_ wG bP)
def dA(ag:Fr)(g:Fr)(i:Nat)(eL:Int):List Int:=if ag.getD i 0=0 then g++[eL] else g
structure qD where
 cells:List aM
 dep:Nat
 bP:List Int
 ag:List Int
 gone:List Int
def bt(dep:Nat)(ae:List (Nat×Int))(at_:Fr)(gone ao:List ak):qD:=
 let cells:=cJ (bc dep ae) ao
 let d:=jC cells
 let bP:=dS d cells
 let ag:=jF at_ (expand ae) bP
 ⟨cells,d,bP,ag,foldI (dA ag) 0 at_ (iY gone ao)⟩
def qt(ag:Fr)(ao:List ak):Nat:=(ag++dD ao).count 0
def nn(dep:Nat)(p:Int×ay)(st:Int×aX):Int×aX:=
 if p.1=0 then
  let r:=st.2.put (encS ⟨dep,st.1,p.2.es⟩)
  (r.1,r.2.2)
 else(p.1,st.2)
def qh(s:aX)(c:ak):Int×aX:=(c.blocks.zip c.ah).foldr (nn c.depth) (0,s)
def sA(cells:List aM)(i:Nat)(at_:Int):List aM:=cells.map λx=>if x.ao=i+1 then{x with block:=at_} else x
def bB(st:aX×List aM)(i:Nat)(c:ak):aX×List aM:=
 let r:=qh st.1 c
 (r.2,sA st.2 i r.1)
def dE(bP ag:Fr)(s:aX)(i:Nat):aX:=
 if i<ag.length then
  if ag.getD i 0=0 then
   let r:=s.put (encI 4 (bG bP i))
   (r.2.2.cM (3+i) r.1).2
  else(s.cM (3+i) (ag.getD i 0)).2
 else(s.cM (3+i) 0).2
def dN(s:aX)(l:Fr):aX:=l.foldl (λs x=>(s.count x.toNat false).2) s
def BQ(s:aX)(p:qD)(ao:List ak):aX:=
 let r:=foldI bB 0 ao (dN s p.gone,p.cells)
 (range 5).foldl (dE (dS p.dep r.2) p.ag) r.1
def gO(s:aX)(l:Fr):Int:=s.room+(l.countP λx=>s.ik x.toNat&&(s.t.get x.toNat==1):Nat)
def oV(s:aX)(dep:Nat)(ae:List (Nat×Int))(at_:Fr)(cs gone ao:List ak):Int×aX:=
 if kW cs gone ao=false then(2,s)
 else
  let p:=bt dep ae at_ gone ao
  if gO s p.gone<qt p.ag ao then(90,s) else(0,BQ s p ao)
end
section
variable{dep x y:Nat}{c:ak}{l:List ak}{s:aX}
def qk:Nat->Nat->List ak->Prop
 |x,y,[]=>x=y
 |x,y,c::r=>c.ax=x/\c.depth<=8/\x%2^(8 - c.depth)=0/\qk (x+2^(8 - c.depth)) y r
def qk.le:∀{l:List ak} {x y:Nat},qk x y l->x<=y
 |[],_,_,h=>Xg h
 |_::_,_,_,h=>Qh (XM _ _) (qk.le h.2.2.2)
def Jn{ax n:Nat}(hm:ax%2^(8 - dep)=0):bY ax dep n=true↔ax<=n/\n<ax+2^(8 - dep):=by
 rw[lE];have hp:0<2^(8 - dep):=Qba _;generalize 2^(8 - dep)=P at*;obtain⟨q,rfl⟩:=Qfw hm;rw[Qfr _ hp];have h1:=Nat.div_add_mod n P;have h2:=Nat.mod_lt n hp;constructor
 .intro h;rw[h] at h1;omega
 .rintro⟨h3,h4⟩;have h5:=(Nat.le_div_iff_mul_le hp).2 (by rw[Qdi];exact h3);have h6:n/P<q+1:=(Qdk hp).2 (by rw[Qdi,Nat.mul_add,Qci];exact h4);omega
def cover_cons(c:ak)(r:List ak)(n:Nat):gL (c::r) n=gL r n+if bY c.ax c.depth n then 1 else 0:=by unfold gL;rw[Qai]
def qk.cover:∀{l:List ak} {x y:Nat},qk x y l->∀n,gL l n=if x<=n/\n<y then 1 else 0
 |[],x,y,h,n=>by
  have h:x=y:=h;rw[Xd Mx];rfl
 |c::r,x,y,h,n=>by
  obtain⟨rfl,h2,h3,h4⟩:=h;have h5:=qk.le h4;rw[cover_cons,qk.cover h4 n];have hi:=Jn (n:=n) h3;generalize 2^(8 - c.depth)=P at*;by_cases h6:bY c.ax c.depth n=true
  .have:=hi.1 h6;rw[Xo h6,Xd Mx,Xo Mx]
  .have h7:¬(c.ax<=n/\n<c.ax+P):=λh=>h6 (hi.2 h);rw[Xd h6];by_cases h8:c.ax+P<=n/\n<y
   .rw[Xo h8,Xo Mx]
   .rw[Xd h8,Xd Mx]
def qk.append:∀{a b:List ak} {x y:Nat},qk x y (a++b)↔∃z,qk x z a/\qk z y b
 |[],b,x,y=>⟨λh=>⟨x,rfl,h⟩,λ⟨z,h1,h2⟩=>by have h1:=h1;rw[h1];exact h2⟩
 |c::a,b,x,y=>by
  show(_/\_/\_/\qk _ _ (a++b))↔_;rw[qk.append];constructor
  .rintro⟨h1,h2,h3,z,h4,h5⟩;exact⟨z,⟨h1,h2,h3,h4⟩,h5⟩
  .rintro⟨z,⟨h1,h2,h3,h4⟩,h5⟩;exact⟨h1,h2,h3,z,h4,h5⟩
def qk.mem:∀{l:List ak} {x y:Nat} {c:ak},qk x y l->c∈l->x<=c.ax/\c.ax+2^(8 - c.depth)<=y/\c.depth<=8/\c.ax%2^(8 - c.depth)=0
 |[],_,_,_,_,h=>zaY
 |a::r,x,y,c,h,hc=>by
  obtain⟨rfl,h2,h3,h4⟩:=h;obtain rfl|hc:=QA.1 hc
  .exact⟨go,qk.le h4,h2,h3⟩
  .obtain⟨g1,g2,g3,g4⟩:=qk.mem h4 hc;exact⟨Qh (XM _ _) g1,g2,g3,g4⟩
def qk.find:∀{l:List ak} {x y:Nat} {c:ak} {n:Nat},qk x y l->c∈l->bY c.ax c.depth n=true->Bf l n=some c
 |[],_,_,_,_,_,h,_=>zaY
 |a::r,x,y,c,n,h,hc,hn=>by
  obtain⟨rfl,h2,h3,h4⟩:=h;rw[Bf,Qee];obtain rfl|hc:=QA.1 hc
  .rw[hn]
  .obtain⟨g1,g2,g3,g4⟩:=qk.mem h4 hc;have h5:=(Jn g4).1 hn;have h6:bY a.ax a.depth n=false:=(by rw[Xf];intro h7;have:=(Jn h3).1 h7;omega);rw[h6];exact qk.find h4 hc hn
def its_self:bY c.ax c.depth c.ax=true:=lE.2 rfl
def coversV_eq{m:List ak}(h:qk x y l)(h' :qk x y m):dF l=dF m:=by unfold dF;refine Zj λn _=> ?_;rw[h.cover,h'.cover]
def coversV_one(h:qk x y l):((dF l).all λk=>decide (k<=1))=true:=by rw[XT];intro k hk;unfold dF at hk;obtain⟨n,-,rfl⟩:=QU.1 hk;rw[h.cover];split<;>rfl
def side_frm(c:ak)(half ax:Nat):(fR c half ax).ax=ax/\(fR c half ax).depth=c.depth+1:=by unfold fR;split<;>exact se _ _ _ _ _
def added_tile:∀(k:Nat) (c:ak) (e:aD),ur c->9<=c.depth+k->bY c.ax c.depth (bz e)=true->qk c.ax (c.ax+2^(8 - c.depth)) (cP k c e):=by
 intro k;induction k with
 |zero=>exact zfD
 |succ k ih=>
  intro c e h h9 rp;have one:∀l bs ss,qk c.ax (c.ax+2^(8 - c.depth)) [bZ c.ax c.depth l bs ss]:=λl bs ss=>by
   obtain⟨h1,h2⟩:=se c.ax c.depth l bs ss;refine⟨h1,?_,?_,?_⟩
   .rw[h2];exact h.ok.d8
   .rw[h2];exact h.ok.mod
   .rw[h2];rfl
  unfold cP;by_cases h1:c.first.length<9
  .rw[Xo h1];exact one _ _ _
  .rw[Xd h1];by_cases h2:rH c e=true
   .rw[Xo h2];exact one _ _ _
   .rw[Xd h2];have hd:=Qdd λh8=>h2 (xu h h8 rp);have hL:=Jb h hd (ax:=c.ax) (Or.inl rfl);have hR:=Jb h hd (ax:=c.ax+dj c) (Or.inr rfl);obtain⟨l1,l2⟩:=side_frm c (dj c) c.ax;obtain⟨r1,r2⟩:=side_frm c (dj c) (c.ax+dj c);obtain⟨q1,q2⟩:=Ce hd h.ok.f256 h.ok.mod rp;obtain⟨n1,n2,n3,n4,-⟩:=qO hd h.ok.f256 h.ok.mod;have e8:8 - (c.depth+1)=7 - c.depth:=Mx;by_cases h3:bY (dQ c).ax (dQ c).depth (bz e)=true
    .rw[Xo h3];have i1:=ih (dQ c) e hL (by rw[dQ,l2];omega) h3;unfold dQ at i1|-;rw[l1,l2,e8] at i1;refine qk.append.2 ⟨_,i1,?_⟩;unfold dd;refine⟨r1,?_,?_,?_⟩
     .rw[r2];omega
     .rw[r2,e8];exact n3
     .rw[r2,e8];show _=_;omega
    .rw[Xd h3];have h4:bY (dd c).ax (dd c).depth (bz e)=true:=(by unfold dQ at h3;unfold dd;rw[l1,l2,q1] at h3;rw[r1,r2];unfold dj;rw[q2];omega);have i1:=ih (dd c) e hR (by rw[dd,r2];omega) h4;unfold dd at i1|-;rw[r1,r2,e8] at i1;unfold dQ;refine⟨l1,?_,?_,?_⟩
     .rw[l2];omega
     .rw[l2,e8];exact n2
     .rw[l2,e8];unfold dj at i1|-;rw[n1,show c.ax+2^(7 - c.depth)*2=c.ax+2^(7 - c.depth)+2^(7 - c.depth) by omega];exact i1
def tripF:List Int->List ay->List (Int×ay×Int)
 |b::bs,s::ss=>if b=0 then tripF bs ss else(b,s,bs.headD 0)::tripF bs ss
 |_,_=>[]
def tripF_cons(b:Int)(bs:Fr)(s:ay)(ss:List ay):tripF (b::bs) (s::ss)=if b=0 then tripF bs ss else(b,s,bs.headD 0)::tripF bs ss:=by rw[tripF]
def trip(c:ak):List (Int×ay×Int):=tripF c.blocks c.ah
def ahead_trip(ax dep:Nat)(l:List aD)(bs:Fr)(ss:List ay):trip (bZ ax dep l bs ss)=tripF bs ss:=by unfold bZ trip;split<;>rfl
def trip_tail(bs:Fr)(ss:List ay):tripF bs.tail ss.tail <:+ tripF bs ss:=by
 cases bs with
 |nil=>cases ss<;>exact Qfu _
 |cons b bs=>
  cases ss with
  |nil=>cases bs<;>exact Qfu _
  |cons s ss=>
   show tripF bs ss <:+ tripF (b::bs) (s::ss);rw[tripF_cons];split
   .exact Qfu _
   .exact List.suffix_cons _ _
def side_trip(c:ak)(half ax:Nat):trip (fR c half ax)=tripF c.blocks.tail c.ah.tail\/trip (fR c half ax)=[]:=by
 unfold fR;split
 .right;rw[ahead_trip];rfl
 .left;rw[ahead_trip]
def sides_trip(h:ur c)(hd:c.depth<8):trip (dQ c)=[]\/trip (dd c)=[]:=by
 obtain⟨s,r,b,br,hs,hb,hl,ha,hf⟩:=h.cons;cases r with
 |nil=>
  left;obtain h1|h1:=side_trip c (dj c) c.ax
  .unfold dQ;rw[h1,hs];show tripF c.blocks.tail []=[];cases c.blocks.tail<;>rfl
  .exact h1
 |cons t r=>
  have bT:=h.ok.full t (hs▸(Qm ..));obtain⟨x,hx⟩:=List.exists_mem_of_ne_nil _ bT;have hxa:x∈c.all:=ha▸(QD _ (QT.2 ⟨t,Qm ..,hx⟩));obtain⟨q1,q2⟩:=Ce hd h.ok.f256 h.ok.mod (h.ok.its x hxa);have e1:=CA h hd (ax:=c.ax) (Or.inl rfl) x hxa;have e2:=CA h hd (ax:=c.ax+dj c) (Or.inr rfl) x hxa;have uC:∀ax,cI (dj c) ax x=false->trip (fR c (dj c) ax)=[]:=λax hm=>by
   rw[fR,Xo]
   .rw[ahead_trip];rfl
   .rw[hs];exact Xb.2 ⟨t,Qm ..,Xb.2 ⟨x,hx,by rw[hm];rfl⟩⟩
  unfold dj at e1 e2;rw[q1] at e1;rw[q2] at e2;by_cases hm:cI (2^(7 - c.depth)) c.ax x=true
  .right;refine uC _ ?_;rw[Xf];intro h3;have:=e1.1 hm;have:=e2.1 h3;omega
  .left;refine uC _ ?_;rw[Xf];exact hm
def suffix_nil_of{α:Type}{l:List α}(h:l <:+ []):l=[]:=List.eq_nil_of_suffix_nil h
def added_trip:∀(k:Nat) (c:ak) (e:aD),ur c->9<=c.depth+k->bY c.ax c.depth (bz e)=true->(cP k c e).flatMap trip <:+ trip c:=by
 intro k;induction k with
 |zero=>exact zfD
 |succ k ih=>
  intro c e h h9 rp;unfold cP;by_cases h1:c.first.length<9
  .rw[Xo h1,Qan,ahead_trip];exact trip_tail _ _
  .rw[Xd h1];by_cases h2:rH c e=true
   .rw[Xo h2,Qan,ahead_trip];exact Qfu _
   .rw[Xd h2];have hd:=Qdd λh8=>h2 (xu h h8 rp);have hL:=Jb h hd (ax:=c.ax) (Or.inl rfl);have hR:=Jb h hd (ax:=c.ax+dj c) (Or.inr rfl);obtain⟨l1,l2⟩:=side_frm c (dj c) c.ax;obtain⟨r1,r2⟩:=side_frm c (dj c) (c.ax+dj c);obtain⟨q1,q2⟩:=Ce hd h.ok.f256 h.ok.mod rp;have hsuf:∀ax,trip (fR c (dj c) ax) <:+ trip c:=λax=>by
     obtain h3|h3:=side_trip c (dj c) ax<;>rw[h3]
     .exact trip_tail _ _
     .exact List.nil_suffix
    have N1:=sides_trip h hd;by_cases h3:bY (dQ c).ax (dQ c).depth (bz e)=true
    .rw[Xo h3,QP,Qan];have i1:=ih (dQ c) e hL (by rw[dQ,l2];omega) h3;obtain h4|h4:=N1
     .rw[h4] at i1;rw[suffix_nil_of i1,QZ];exact hsuf _
     .rw[h4,Zi];exact i1.trans (hsuf _)
    .rw[Xd h3,QH];have h4:bY (dd c).ax (dd c).depth (bz e)=true:=(by unfold dQ at h3;unfold dd;rw[l1,l2,q1] at h3;rw[r1,r2];unfold dj;rw[q2];omega);have i1:=ih (dd c) e hR (by rw[dd,r2];omega) h4;obtain h5|h5:=N1
     .rw[h5,QZ];exact i1.trans (hsuf _)
     .rw[h5] at i1;rw[suffix_nil_of i1,Zi];exact hsuf _
def keptStep(st:Option (Int->Option ay))(t:Int×ay×Int):Option (Int->Option ay):=
 match st with
 |none=>none
 |some m=>match m t.1 with
  |none=>none
  |some s=>if s=t.2.1/\s.next=t.2.2 then some (mX m t.1) else none
def kept_fold(c:ak):∀(bs:Fr) (ss:List ay) (i:Nat) (st:Option (Int->Option ay)),c.blocks.drop i=bs->foldI (bV c) i (bs.zip ss) st=(tripF bs ss).foldl keptStep st:=by
 intro bs;induction bs with
 |nil=>intro ss i st _;rfl
 |cons b bs ih=>
  intro ss i st hd;cases ss with
  |nil=>rfl
  |cons s ss=>
   have hb:c.blocks.drop (i+1)=bs:=(by rw[<-Qav (i:=1) (j:=i),hd];rfl);have hn:c.blocks.getD (i+1) 0=bs.headD 0:=by
    rw[<-hb,Qe];cases h1:c.blocks.drop (i+1) with
    |nil=>rw[QQ (List.drop_eq_nil_iff.1 h1)];rfl
    |cons x r=>
     have:c.blocks[i+1]? =some x:=(by have h2:(c.blocks.drop (i+1))[0]? =some x:=(by rw[h1];rfl);rw[Zb] at h2;exact h2);rw[this];rfl
   show foldI (bV c) (i+1) (bs.zip ss) (bV c st i (b,s))=_;rw[ih ss (i+1) _ hb,tripF_cons];by_cases h0:b=0
   .rw[Xo h0];congr 1;unfold bV;cases st with
    |none=>rfl
    |some m=>simp[h0]
   .rw[Xd h0,Qak];congr 1;unfold bV keptStep;cases st with
    |none=>rfl
    |some m=>
     simp only[Xd h0,hn]<;>rfl
def keptC_eq(st:Option (Int->Option ay))(c:ak):IK st c=(trip c).foldl keptStep st:=kept_fold c _ _ 0 st rfl
def keptM_eq(gone ao:List ak):mu gone ao=(ao.flatMap trip).foldl keptStep (some (abL gone)):=by
 unfold mu;generalize some (abL gone)=st;induction ao generalizing st with
 |nil=>rfl
 |cons c r ih=>rw[Qak,ih,keptC_eq,QH,Qbv]
def keptStep_ok:∀(L:List (Int×ay×Int)) (m:Int->Option ay),(L.map (·.1)).Nodup->(∀t∈L,m t.1=some t.2.1/\t.2.1.next=t.2.2)->(L.foldl keptStep (some m)).isSome=true
 |[],_,_,_=>rfl
 |t::r,m,hn,h=>by
  obtain⟨h1,h2⟩:=h t (Qm ..);rw[Zs,Qez] at hn;rw[Qak];have e:keptStep (some m) t=some (mX m t.1):=by unfold keptStep;simp only[h1];rw[Xo ⟨trivial,h2⟩]
  rw[e];refine keptStep_ok r _ hn.2 λu hu=> ?_;have bT:u.1≠t.1:=λe=>hn.1 (e▸QU.2 ⟨u,hu,rfl⟩);rw[mX,Xd bT];exact h u (Qs _ hu)
def fput_fold:∀(L:List (Int×ay)) (m:Int->Option ay) (x:Int),x∉L.map Prod.fst->L.foldl (λm p=>eM m p.1 p.2) m x=m x
 |[],_,_,_=>rfl
 |p::r,m,x,h=>by rw[Zs,QA,not_or] at h;rw[Qak,fput_fold r _ x h.2];rw[eM,Xd h.1]
def stood_mem:∀(L:List (Int×ay)) (m:Int->Option ay) (p:Int×ay),(L.map Prod.fst).Nodup->p∈L->L.foldl (λm p=>eM m p.1 p.2) m p.1=some p.2
 |a::r,m,p,hn,hp=>by
  rw[Zs,Qez] at hn;rw[Qak];obtain rfl|hp:=QA.1 hp
  .rw[fput_fold r _ _ hn.1];rw[eM,Xo rfl]
  .exact stood_mem r _ p hn.2 hp
def trip_zip:∀(bs:Fr) (ss:List ay) (t:Int×ay×Int),t∈tripF bs ss->(t.1,t.2.1)∈bs.zip ss
 |[],ss,t,h=>by cases ss<;>exact absurd h QV
 |_::_,[],t,h=>absurd h QV
 |b::bs,s::ss,t,h=>by
  rw[Qgr];rw[tripF_cons] at h;split at h
  .exact Qs _ (trip_zip bs ss t h)
  .rcases QA.1 h with rfl|h
   .exact Qm ..
   .exact Qs _ (trip_zip bs ss t h)
def trip_sub:∀(bs:Fr) (ss:List ay),((tripF bs ss).map (·.1)).Sublist bs
 |[],ss=>by cases ss<;>exact Qhi _
 |_::_,[]=>List.nil_sublist _
 |b::bs,s::ss=>by
  rw[tripF_cons];split
  .exact(trip_sub bs ss).cons _
  .exact(trip_sub bs ss).cons_cons _
def zip_fst_sub:∀(bs:Fr) (ss:List ay),((bs.zip ss).map Prod.fst).Sublist bs
 |[],_=>Qhi _
 |_::_,[]=>List.nil_sublist _
 |_::bs,_::ss=>(zip_fst_sub bs ss).cons_cons _
def NextOk(c:ak):Prop:=c.blocks.Nodup/\∀t∈trip c,t.2.1.next=t.2.2
def kept_one(h:NextOk c){ao:List ak}(hs:ao.flatMap trip <:+ trip c):mr [c] ao=true:=by
 rw[mr,keptM_eq];refine keptStep_ok _ _ ?_ λt ht=> ?_
 .exact(List.Sublist.map _ hs.sublist).nodup (List.Sublist.nodup (trip_sub _ _) h.1)
 .have h1:=hs.subset ht;refine⟨?_,h.2 t h1⟩;rw[abL,Qan];exact stood_mem _ _ (t.1,t.2.1) (List.Sublist.nodup (zip_fst_sub _ _) h.1) (trip_zip _ _ t h1)
def trip_next:∀(bs:Fr) (ss:List ay),(∀k s,ss[k]? =some s->s.next=bs.getD (k+1) 0)->∀t∈tripF bs ss,t.2.1.next=t.2.2
 |[],ss,_,t,h=>by cases ss<;>exact absurd h QV
 |_::_,[],_,t,h=>absurd h QV
 |b::bs,s::ss,hk,t,h=>by
  have ih:=trip_next bs ss (λk s' hs' =>by
   have:=hk (k+1) s' (by simpa using hs');simpa using this) t
  rw[tripF_cons] at h;split at h
  .exact ih h
  .rcases QA.1 h with rfl|h
   .have:=hk 0 s rfl;show s.next=bs.headD 0;rw[this]
    cases bs<;>rfl
   .exact ih h
def JA.nextOk(h:JA s c):NextOk c:=by
 refine⟨h.nd,trip_next _ _ λk sh hk=> ?_⟩;have aJ:k<c.blocks.length:=by rw[h.len];exact(Ql.1 hk).1
 obtain⟨b,sh',h1,h2,h3,h4,h5,h6⟩:=h.pg k aJ;rw[hk] at h4;obtain rfl:=Qr h4;exact h6
def MU.aaP{ae:List (Nat×Int)}{at_:Fr}{cs:List ak}(h:MU s dep ae at_ cs):qk 0 256 cs:=by
 have key:∀m j,j+m=cs.length->qk (aC ae j*2^(8 - dep)) 256 (cs.drop j):=by
  intro m;induction m with
  |zero=>
   intro j hj;rw[Zu Mx];show _=_;rw[nM ae j (by rw[<-h.len];omega),h.dir.oH.sum,<-Qch,show dep+(8 - dep)=8 by have:=h.dir.oH.d8;omega]
  |succ m ih=>
   intro j hj;have wI:j<cs.length:=Mx;have hc:=Qf wI;have lA:ae[j]? =some (ae[j]'(by rw[<-h.len];exact wI)):=Qf _;obtain⟨h1,h2,h3,h4,e,h5,h6,h7⟩:=h.ch j _ _ lA hc;obtain⟨e',g1,g2,g3⟩:=h.dir.oH.two j _ lA;have qc:=h.dir.oH.d8;rw[Zd wI];have hp:2^(8 - cs[j].depth)=2^(8 - dep)*2^e:=(by rw[h7,<-Qch,show 8 - (dep - e)=8 - dep+e by omega]);refine⟨h4,by rw[h7];omega,?_,?_⟩
   .rw[hp];rw[h6] at g3;rw[Qdi (aC ae j),Nat.mul_mod_mul_left,g3,Nat.mul_zero]
   .have i:=ih (j+1) Mx;rw[bH ae j _ lA,h6,Qfs] at i;rw[hp,Qdi (2^(8 - dep)) (2^e)];exact i
 have:=key cs.length 0 Mx;rw[qS,Xz] at this;exact this
def qk.Zn{a g b:List ak}(h:qk x y (a++g++b)):∃p q,qk x p a/\qk p q g/\qk q y b:=by obtain⟨q,h1,h2⟩:=qk.append.1 h;obtain⟨p,h3,h4⟩:=qk.append.1 h1;exact⟨p,q,h3,h4,h2⟩
variable{n:Nat}{cs:List ak}{β:Type}
def segsOf(dep:Nat)(cs:List ak):List (Nat×Int):=cs.map λc=>(2^(dep - c.depth),c.blocks.getD 0 0)
def MU.ae{s:aX}{ae:List (Nat×Int)}{at_:Fr}(h:MU s dep ae at_ cs):ae=segsOf dep cs/\∀c∈cs,c.depth<=dep:=by
 constructor
 .refine Qal λj=> ?_;rw[segsOf,Qt];by_cases hj:j<ae.length
  .have hs:ae[j]? =some ae[j]:=Qf hj;have hc:cs[j]? =some (cs[j]'(by rw[h.len];exact hj)):=Qf _;obtain⟨-,-,h3,-,e,h5,h6,h7⟩:=h.ch j _ _ hs hc;rw[hs,hc];show some ae[j]=some (2^(dep - _),_);rw[h7,h3,show dep - (dep - e)=e by omega,<-h6]
  .rw[QQ Mx,QQ (by rw[h.len];omega)];rfl
 .intro c hc;obtain⟨j,hj⟩:=Qab hc;have hl:=(Ql.1 hj).1;have hs:ae[j]? =some (ae[j]'(by rw[<-h.len];exact hl)):=Qf _;obtain⟨-,-,-,-,e,h5,h6,h7⟩:=h.ch j _ _ hs hj;omega
def tile_flat(f:ak->β)(d:β)(dep:Nat)(hd:dep<=8):∀(l:List ak) (x y:Nat),qk (x*2^(8 - dep)) (y*2^(8 - dep)) l->(∀c∈l,c.depth<=dep)->
  l.flatMap (λc=>replicate (2^(dep - c.depth)) (f c))=(List.range' x (y - x)).map λn=>match Bf l (n*2^(8 - dep)) with|some c=>f c|none=>d:=by
 intro l;have hP:0<2^(8 - dep):=Qba _;induction l with
 |nil=>
  intro x y h _;have h:=h;rw[Nat.eq_of_mul_eq_mul_right hP h,XE];rfl
 |cons c r ih=>
  intro x y h hdep;obtain⟨h1,h2,h3,h4⟩:=h;have hcd:=hdep c (Qm ..);have⟨m,hm⟩:=eXa (2^(dep - c.depth));have agk:2^(8 - c.depth)=m*2^(8 - dep):=by rw[hm,<-Qch,show 8 - c.depth=dep - c.depth+(8 - dep) by omega]
  rw[agk] at h3 h4;rw[<-Qfs] at h4;have hle:=Nat.le_of_mul_le_mul_right (qk.le h4) hP;have i:=ih (x+m) y h4 λc' TJ =>hdep c' (Qs _ TJ);have rp:∀n,bY c.ax c.depth (n*2^(8 - dep))=true↔x<=n/\n<x+m:=λn=>by rw[Jn (by rw[h1,agk];exact h3),h1,agk,<-Qfs,Nat.mul_le_mul_right_iff hP,Nat.mul_lt_mul_right hP]
  rw[QH,i,<-hm,show y - x=m+(y - (x+m)) by omega,<-List.range'_append_1,QL];congr 1
  .refine(List.eq_replicate_iff.2 ⟨Sv,λb hb=> ?_⟩).symm;obtain⟨n,hn,rfl⟩:=QU.1 hb;have hn:=List.mem_range'_1.1 hn;rw[Bf,Qee,(rp n).2 hn]
  .refine Zj λn hn=> ?_;have hn:=List.mem_range'_1.1 hn;have hf:bY c.ax c.depth (n*2^(8 - dep))=false:=(by rw[Xf];intro h5;have:=(rp n).1 h5;omega);unfold Bf;rw[Qee,hf]
def pow8(hd:dep<=8):2^dep*2^(8 - dep)=256:=by rw[<-Qch,show dep+(8 - dep)=8 by omega]
def tile_all(f:ak->β)(d:β)(hd:dep<=8){l:List ak}(h:qk 0 256 l)(hdep:∀c∈l,c.depth<=dep):
  l.flatMap (λc=>replicate (2^(dep - c.depth)) (f c))=(range (2^dep)).map λn=>match Bf l (n*2^(8 - dep)) with|some c=>f c|none=>d:=by
 have:=tile_flat f d dep hd l 0 (2^dep) (by rw[Xz,pow8 hd];exact h) hdep;rw[this,Nat.sub_zero,List.range_eq_range']
def firstAt(cs:List ak)(n:Nat):Int:=match Bf cs n with|some c=>c.blocks.getD 0 0|none=>0
def cellAt(cs:List ak)(n:Nat):aM:=match Bf cs n with|some c=>⟨c.blocks.getD 0 0,c.depth,0⟩|none=>⟨0,0,0⟩
def expand_segs(hd:dep<=8)(h:qk 0 256 cs)(hdep:∀c∈cs,c.depth<=dep):expand (segsOf dep cs)=(range (2^dep)).map λn=>firstAt cs (n*2^(8 - dep)):=by have:=tile_all (λc=>c.blocks.getD 0 0) (0:Int) hd h hdep;unfold expand segsOf;rw[Qfv];exact this
def its_floor{c:ak}(hc:c.depth<=dep)(hd:dep<=8):bY c.ax c.depth (n/2^(8 - dep)*2^(8 - dep))=bY c.ax c.depth n:=by have hp:2^(8 - c.depth)=2^(8 - dep)*2^(dep - c.depth):=zaP;rw[XD,lE,lE,hp,<-Qbb,<-Qbb,Nat.mul_div_cancel _ (Qba _),<-Qbb]
def atN_floor(hd:dep<=8)(hdep:∀c∈cs,c.depth<=dep):Bf cs (n/2^(8 - dep)*2^(8 - dep))=Bf cs n:=by
 unfold Bf;induction cs with
 |nil=>rfl
 |cons c r ih=>
  rw[Qee,Qee,its_floor (hdep c (Qm ..)) hd,ih λc' TJ =>hdep c' (Qs _ TJ)]
def log2_pow(k:Nat):(2^k).log2=k:=Nat.log2_two_pow
def cells_segs(hd:dep<=8)(h:qk 0 256 cs)(hdep:∀c∈cs,c.depth<=dep):bc dep (segsOf dep cs)=(range 256).map (cellAt cs):=by
 have h1:=tile_all (λc=>aM.mk (c.blocks.getD 0 0) c.depth 0) (aM.mk 0 0 0) hd h hdep;have h2:uH dep (segsOf dep cs)=(range (2^dep)).map λn=>cellAt cs (n*2^(8 - dep)):=by unfold uH segsOf;rw[Qfv];refine Qgg ?_ h1;refine XF List.flatten (Zj λc hc=> ?_);show replicate (2^(dep - c.depth)) (aM.mk _ (dep - (2^(dep - c.depth)).log2) 0)=_;rw[log2_pow,show dep - (dep - c.depth)=c.depth by have:=hdep c hc;omega]
 unfold bc;rw[h2];refine Zj λn hn=> ?_;have hn:=Zm.1 hn;have aJ:=(Qdk (Qba _)).2 (by rw[pow8 hd];exact hn);rw[Qe,Qt,Qam aJ];show cellAt cs (n/2^(8 - dep)*2^(8 - dep))=_;unfold cellAt;rw[atN_floor hd hdep]
def atI:Nat->List ak->Nat->Option (Nat×ak)
 |_,[],_=>none
 |i,c::r,n=>if bY c.ax c.depth n=true then some (i,c) else atI (i+1) r n
def atI_cons(i:Nat)(c:ak)(r:List ak)(n:Nat):atI i (c::r) n=if bY c.ax c.depth n=true then some (i,c) else atI (i+1) r n:=by rw[atI]
def atI_fst:∀(l:List ak) (i n:Nat),(atI i l n).map Prod.snd=Bf l n
 |[],_,_=>rfl
 |c::r,i,n=>by
  rw[Bf,atI_cons,Qee]
  cases h:bY c.ax c.depth n with
  |true=>rfl
  |false=>
   simp only[Xn,Qgf];exact atI_fst r (i+1) n
def atI_get:∀(l:List ak) (i n j:Nat) (c:ak),atI i l n=some (j,c)->∃k,j=i+k/\l[k]? =some c/\bY c.ax c.depth n=true
 |[],_,_,_,_,h=>zaY
 |a::r,i,n,j,c,h=>by
  rw[atI_cons] at h;split at h
  .rename_i hi
   cases h;exact⟨0,rfl,rfl,hi⟩
  .obtain⟨k,h1,h2,h3⟩:=atI_get r (i+1) n j c h;exact⟨k+1,Mx,zbO,h3⟩
def qk.none(h:qk x y l)(hn:¬(x<=n/\n<y)):Bf l n=none:=by rw[Bf,Qfi];intro c hc hi;obtain⟨g1,g2,g3,g4⟩:=h.mem hc;have:=(Jn g4).1 hi;omega
def qk.some(h:qk x y l)(hn:x<=n/\n<y):∃c∈l,Bf l n=some c/\bY c.ax c.depth n=true:=by
 have h1:=h.cover n;rw[Xo hn] at h1;have h2:0<l.countP λc=>bY c.ax c.depth n:=by have:l.countP (λc=>bY c.ax c.depth n)=1:=h1;omega
 obtain⟨c,hc,hi⟩:=List.countP_pos_iff.1 h2;exact⟨c,hc,h.find hc hi,hi⟩
def atN_append(a b:List ak)(n:Nat):Bf (a++b) n=(Bf a n).or (Bf b n):=Qhg
def comeOne_len(cells:List aM)(i:Nat)(c:ak):(fE cells i c).length=cells.length:=by simp[fE]
def come_get:∀(l:List ak) (i x y:Nat) (cells:List aM) (n:Nat),qk x y l->n<cells.length->
  (foldI fE i l cells)[n]? =match atI i l n with|Option.some (j,c)=>Option.some ⟨c.blocks.getD 0 0,c.depth,j+1⟩|Option.none=>cells[n]? :=by
 intro l;induction l with
 |nil=>intro i x y cells n _ _;rfl
 |cons c r ih=>
  intro i x y cells n h hn;obtain⟨h1,h2,h3,h4⟩:=h;show(foldI fE (i+1) r (fE cells i c))[n]? =_;rw[ih (i+1) _ y _ n h4 (by rw[comeOne_len];exact hn)];have hc:(fE cells i c)[n]? =Option.some (if bY c.ax c.depth n=true then⟨c.blocks.getD 0 0,c.depth,i+1⟩ else cells[n]):=by unfold fE;rw[Zp,Qf hn];rfl
  rw[atI_cons];by_cases hi:bY c.ax c.depth n=true
  .have YC:atI (i+1) r n=Option.none:=(by have h5:=h4.none (n:=n) (by have:=(Jn (h1▸h3)).1 hi;rw[h1] at this;omega);rw[<-atI_fst r (i+1) n] at h5;simpa using h5);rw[YC,Xo hi];simp only;rw[hc,Xo hi]
  .rw[Xd hi];cases h6:atI (i+1) r n with
   |some p=>rfl
   |none=>
    simp only;rw[hc,Xd hi,Qf hn]
def putZ(dep:Nat):List Int->List ay->aX->List Int×List ay×aX
 |b::bs,sh::ss,s=>
  let z:=putZ dep bs ss s
  if b=0 then
   let r:=z.2.2.put (encS ⟨dep,z.1.headD 0,sh.es⟩)
   (r.1::z.1,⟨dep,z.1.headD 0,sh.es⟩::z.2.1,r.2.2)
  else(b::z.1,sh::z.2.1,z.2.2)
 |_,_,s=>([],[],s)
def putZ_cons(dep:Nat)(b:Int)(bs:Fr)(sh:ay)(ss:List ay)(s:aX):putZ dep (b::bs) (sh::ss) s=
  if b=0 then(((putZ dep bs ss s).2.2.put (encS ⟨dep,(putZ dep bs ss s).1.headD 0,sh.es⟩)).1::(putZ dep bs ss s).1,⟨dep,(putZ dep bs ss s).1.headD 0,sh.es⟩::(putZ dep bs ss s).2.1,((putZ dep bs ss s).2.2.put (encS ⟨dep,(putZ dep bs ss s).1.headD 0,sh.es⟩)).2.2)
  else(b::(putZ dep bs ss s).1,sh::(putZ dep bs ss s).2.1,(putZ dep bs ss s).2.2):=by rw[putZ]
def putZ_fold(dep:Nat):∀(bs:Fr) (ss:List ay) (s:aX),(bs.zip ss).foldr (nn dep) (0,s)=((putZ dep bs ss s).1.headD 0,(putZ dep bs ss s).2.2)
 |[],ss,s=>by cases ss<;>rfl
 |_::_,[],s=>rfl
 |b::bs,sh::ss,s=>by
  rw[Qgr,List.foldr_cons,putZ_fold dep bs ss s];rw[putZ_cons];unfold nn;by_cases h:b=0
  .simp only[Xo h];rfl
  .simp only[Xd h];rfl
def putZ_len(dep:Nat):∀(bs:Fr) (ss:List ay) (s:aX),bs.length=ss.length->(putZ dep bs ss s).1.length=bs.length/\(putZ dep bs ss s).2.1.length=bs.length
 |[],[],_,_=>⟨rfl,rfl⟩
 |b::bs,sh::ss,s,h=>by
  obtain⟨h1,h2⟩:=putZ_len dep bs ss s EQ;rw[putZ_cons];by_cases h0:b=0
  .simp only[Xo h0,QF,h1,h2];exact⟨trivial,trivial⟩
  .simp only[Xd h0,QF,h1,h2];exact⟨trivial,trivial⟩
def nameOne(s:aX)(c:ak):ak×aX:=
 let z:=putZ c.depth c.blocks c.ah s
 (⟨c.ax,c.depth,z.1,z.2.1⟩,z.2.2)
def nameL:List ak->aX->List ak×aX
 |[],s=>([],s)
 |c::r,s=>((nameOne s c).1::(nameL r (nameOne s c).2).1,(nameL r (nameOne s c).2).2)
def putV_name(s:aX)(c:ak):qh s c=((nameOne s c).1.blocks.headD 0,(nameOne s c).2):=putZ_fold _ _ _ _
def nameL_len:∀(l:List ak) (s:aX),(nameL l s).1.length=l.length
 |[],_=>rfl
 |c::r,s=>by show((nameL r _).1.length+1)=_;rw[nameL_len r];rfl
def name_tile:∀(l:List ak) (s:aX) (x y:Nat),qk x y l->qk x y (nameL l s).1
 |[],_,_,_,h=>h
 |_::r,_,_,y,h=>⟨h.1,h.2.1,h.2.2.1,name_tile r _ _ y h.2.2.2⟩
def name_atI:∀(l:List ak) (s:aX) (i n:Nat),match atI i l n with|some (j,c)=>∃c',atI i (nameL l s).1 n=some (j,c')/\(nameL l s).1[j - i]? =some c'/\i<=j/\c'.ax=c.ax/\c'.depth=c.depth|none=>atI i (nameL l s).1 n=none
 |[],_,_,_=>rfl
 |c::r,s,i,n=>by
  have hf:(nameOne s c).1.ax=c.ax:=rfl;have hd:(nameOne s c).1.depth=c.depth:=rfl;rw[atI_cons];by_cases h:bY c.ax c.depth n=true
  .rw[Xo h];refine⟨(nameOne s c).1,?_,by rw[XE];rfl,go,rfl,rfl⟩;show atI i ((nameOne s c).1::(nameL r (nameOne s c).2).1) n=_;rw[atI_cons,hf,hd,Xo h]
  .rw[Xd h];have e:atI i (nameL (c::r) s).1 n=atI (i+1) (nameL r (nameOne s c).2).1 n:=(by show atI i ((nameOne s c).1::(nameL r (nameOne s c).2).1) n=_;rw[atI_cons,hf,hd,Xd h]);have ih:=name_atI r (nameOne s c).2 (i+1) n
   cases h2:atI (i+1) r n with
   |none=>rw[h2] at ih;show atI i _ n=none;rw[e];exact ih
   |some p=>
    obtain⟨j,c1⟩:=p;rw[h2] at ih;obtain⟨c',g1,g2,g3,g4⟩:=ih;refine⟨c',by rw[e];exact g1,?_,Mx,g4⟩;rw[show j - i=(j - (i+1))+1 by omega];exact g2
def nameX(i:Nat)(ns:List ak)(x:aM):aM:=if i<x.ao/\x.ao<=i+ns.length then{x with block:=(ns.getD (x.ao - 1 - i) ⟨0,0,[],[]⟩).blocks.headD 0} else x
def done_fold:∀(l:List ak) (i:Nat) (s:aX) (cells:List aM),foldI bB i l (s,cells)=((nameL l s).2,cells.map (nameX i (nameL l s).1))
 |[],i,s,cells=>by
  show(s,cells)=(s,_);have:cells.map (nameX i [])=cells:=by
   conv=>rhs;rw[<-List.map_id cells]
   refine Zj λx _=> ?_;rw[nameX,Xd (by rintro⟨h1,h2⟩;rw[Xq] at h2;omega)];rfl
  exact XF _ this.symm
 |c::r,i,s,cells=>by
  show foldI bB (i+1) r (bB (s,cells) i c)=_;have e0:bB (s,cells) i c=((nameOne s c).2,sA cells i ((nameOne s c).1.blocks.headD 0)):=by unfold bB;simp only[putV_name]
  rw[e0,done_fold r (i+1)];show(_,_)=((nameL r (nameOne s c).2).2,cells.map (nameX i ((nameOne s c).1::(nameL r (nameOne s c).2).1)));congr 1;rw[sA,Qbg];refine Zj λx _=> ?_;simp only[Function.comp];generalize (nameL r (nameOne s c).2).1=ns;by_cases h:x.ao=i+1
  .rw[Xo h];unfold nameX;simp only[QF];rw[Xd Mx,Xo Mx,h,show i+1 - 1 - i=0 by omega];rfl
  .rw[Xd h];unfold nameX;simp only[QF];by_cases h2:i+1<x.ao/\x.ao<=i+1+ns.length
   .rw[Xo h2,Xo Mx,show x.ao - 1 - i=(x.ao - 1 - (i+1))+1 by omega];rfl
   .rw[Xd h2,Xd Mx]
def head_getD(l:Fr):l.headD 0=l.getD 0 0:=by cases l<;>rfl
def named_cells{A G B C:List ak}{p q:Nat}(hA:qk 0 p A)(hG:qk p q G)(hC:qk p q C)(s:aX)(n:Nat)(hn:n<256):
  ((cJ ((range 256).map (cellAt (A++G++B))) C).map (nameX 0 (nameL C s).1))[n]?.map (·.block)=some (firstAt (A++(nameL C s).1++B) n)/\((cJ ((range 256).map (cellAt (A++G++B))) C))[n]?.map (·.depth)=some (match Bf (A++(nameL C s).1++B) n with|some c=>c.depth|none=>0)/\
  ((cJ ((range 256).map (cellAt (A++G++B))) C))[n]?.map (·.block)=some (firstAt (A++C++B) n):=by
 have hl:n<((range 256).map (cellAt (A++G++B))).length:=by simpa using hn
 have hg:=come_get C 0 p q _ n hC hl;have hN:=name_tile C s p q hC;have hnm:=name_atI C s 0 n;have pV:((range 256).map (cellAt (A++G++B)))[n]? =some (cellAt (A++G++B) n):=by rw[Qt,Qam hn];rfl
 rw[cJ,Qt];by_cases hpq:p<=n/\n<q
 .obtain⟨c,hc,h1,h2⟩:=hC.some hpq;have hI:∃j,atI 0 C n=some (j,c):=by
   have:=atI_fst C 0 n;rw[h1] at this
   cases h3:atI 0 C n with
   |none=>rw[h3] at this;cases this
   |some x=>rw[h3] at this;simp at this;exact⟨x.1,by rw[<-this]⟩
  obtain⟨j,hj⟩:=hI;rw[hj] at hg hnm;obtain⟨c',g1,g2,-,g3,g4⟩:=hnm;have hNc:Bf (nameL C s).1 n=some c' :=by rw[<-atI_fst _ 0 n,g1];rfl
  have hAn:Bf A n=none:=hA.none Mx;have iH:Bf (A++(nameL C s).1++B) n=some c' :=by rw[atN_append,atN_append,hAn,hNc];rfl
  have hcs2:Bf (A++C++B) n=some c:=by rw[atN_append,atN_append,hAn,h1];rfl
  have wI:j<(nameL C s).1.length:=by have:=(Ql.1 g2).1;omega
  rw[hg];refine⟨?_,?_,?_⟩
  .unfold firstAt;rw[iH];unfold nameX;simp only[Option.map_some];rw[Xo Mx];simp only;rw[show j+1 - 1 - 0=j - 0 by omega,Qe,g2,head_getD];rfl
  .rw[iH];show some c.depth=some c'.depth;rw[g4]
  .unfold firstAt;rw[hcs2];rfl
 .have YC:atI 0 C n=none:=by have:=atI_fst C 0 n;rw[hC.none hpq] at this;exact zdO
  have hCn:=hC.none hpq;have hGn:=hG.none hpq;have hNn:=hN.none hpq;rw[YC] at hg;rw[hg,pV];have e1:Bf (A++(nameL C s).1++B) n=Bf (A++G++B) n:=by simp only[atN_append,hNn,hGn]
  have e2:Bf (A++C++B) n=Bf (A++G++B) n:=by simp only[atN_append,hCn,hGn]
  have hx:cellAt (A++G++B) n=⟨firstAt (A++G++B) n,(match Bf (A++G++B) n with|some c=>c.depth|none=>0),0⟩:=by
   unfold cellAt firstAt
   cases Bf (A++G++B) n<;>rfl
  have f1:firstAt (A++(nameL C s).1++B) n=firstAt (A++G++B) n:=by unfold firstAt;rw[e1]
  have f2:firstAt (A++C++B) n=firstAt (A++G++B) n:=by unfold firstAt;rw[e2]
  rw[hx,f1,f2,e1];refine⟨?_,rfl,rfl⟩;unfold nameX;simp
variable{s' :aX}{T U news own:GT}{b:Nat}{c' :ak}
def BInv.perm{l m:GT}(h:BInv s l)(hp:l.Perm m):BInv s m:=
 ⟨h.ok,h.tok,h.n16,h.live,h.need,hp.nodup_iff.1 h.nd,λb hb=>h.own b (hp.mem_iff.2 hb),λb h1 h2=>(h.rest b h1 h2).imp hp.mem_iff.1 id,h.held,h.fr⟩
structure Eff(s s' :aX)(T:GT):Prop where
 rd:∀x,x∉T->s'.read x=s.read x
 fr:∀x,x∉T->s'.ik x=s.ik x
 len:s'.t.len=s.t.len
 mE:∀x,s'.t.mE x=s.t.mE x
 kept:s'.kept=s.kept
 ag:s'.ag=s.ag
 au:s'.au=s.au
 bl:s'.bl=s.bl
 slot:s'.slot=s.slot
 gt:∀x,x∉T->s'.t.get x=s.t.get x
def Eff.refl(s:aX):Eff s s []:=⟨λ_ _=>rfl,λ_ _=>rfl,rfl,λ_=>rfl,rfl,rfl,rfl,rfl,rfl,λ_ _=>rfl⟩
def Eff.trans{s'' :aX}(h:Eff s s' T)(k:Eff s' s'' U):Eff s s'' (U++T):=
 ⟨λx hx=>(k.rd x λm=>hx (QB _ m)).trans (h.rd x λm=>hx (QD _ m)),λx hx=>(k.fr x λm=>hx (QB _ m)).trans (h.fr x λm=>hx (QD _ m)),
  k.len.trans h.len,λx=>(k.mE x).trans (h.mE x),k.kept.trans h.kept,k.ag.trans h.ag,k.au.trans h.au,k.bl.trans h.bl,k.slot.trans h.slot,λx hx=>(k.gt x λm=>hx (QB _ m)).trans (h.gt x λm=>hx (QD _ m))⟩
def Eff.mono(h:Eff s s' T)(hU:∀x∈T,x∈U):Eff s s' U:=
 ⟨λx hx=>h.rd x λm=>hx (hU x m),λx hx=>h.fr x λm=>hx (hU x m),h.len,h.mE,h.kept,h.ag,h.au,h.bl,h.slot,λx hx=>h.gt x λm=>hx (hU x m)⟩
def PutOk.eff{data:Fr}(h:PutOk s own data b s'):Eff s s' [b]:=
 ⟨λx hx=>(h.other x λe=>hx (e▸(Qx.2 rfl))).1,λx hx=>(h.other x λe=>hx (e▸(Qx.2 rfl))).2.1,h.len,h.mE,h.same.2.1,h.same.2.2.1,h.same.2.2.2.1,h.same.2.2.2.2.1,h.same.2.2.2.2.2,λx hx=>(h.other x λe=>hx (e▸(Qx.2 rfl))).2.2⟩
def DownOk.eff(h:DownOk s own b s'):Eff s s' [b]:=
 ⟨λx hx=>(h.other x λe=>hx (e▸(Qx.2 rfl))).1,λx hx=>(h.other x λe=>hx (e▸(Qx.2 rfl))).2.1,h.len,h.mE,h.same.2.1,h.same.2.2.1,h.same.2.2.2.1,h.same.2.2.2.2.1,h.same.2.2.2.2.2,λx hx=>(h.other x λe=>hx (e▸(Qx.2 rfl))).2.2⟩
def downsN(s:aX)(l:GT):aX:=l.foldl (λs x=>(s.count x false).2) s
def downsV_eq(s:aX)(l:Fr):dN s l=downsN s (l.map Int.toNat):=by unfold dN downsN;rw[List.foldl_map]
def downs_ok:∀(l r:GT) (s:aX),BInv s (l++r)->BInv (downsN s l) r/\Eff s (downsN s l) l/\(downsN s l).room=s.room+(l.countP λx=>s.ik x:Nat)/\(downsN s l).eO=s.eO
 |[],r,s,h=>⟨h,Eff.refl s,by show s.room=s.room+0;omega,rfl⟩
 |b::l,r,s,h=>by
  have d:=down_inv h (b:=b) (Qm ..);have e:(b::l++r).erase b=l++r:=by rw[Qaj,List.erase_cons_head]
  have im:=h.nd;rw[Qaj,Qez] at im;obtain⟨h1,h2,h3,h4⟩:=downs_ok l r _ (e▸d.inv);refine⟨h1,(d.eff.trans h2).mono λx hx=> ?_,?_,h4.trans d.same.1⟩
  .rcases Qz.1 hx with hx|hx
   .exact Qs _ hx
   .rw[Qx.1 hx];exact Qm ..
  .show(downsN (s.count b false).2 l).room=_;rw[h3,d.room,Qai];have hc:(l.countP λx=>(s.count b false).2.ik x)=l.countP λx=>s.ik x:=(by refine Qeh λx hx=> ?_;have bT:x≠b:=λe=>im.1 (QB _ (e▸hx));rw[(d.other x bT).2.1]);rw[hc];split<;>simp_all<;>omega
def LX(s:ay)(hd:aI s.depth)(h9:s.es.length<=9):(encS s).length=128/\∀x∈encS s,aI x:=
 ⟨oq _ _ (by rw[Ib];omega),lP IN (nU s hd h9)⟩
structure ZOk(dep:Nat)(bs:Fr)(ss:List ay)(s:aX)(hold:GT)(z:List Int×List ay×aX)(news:GT):Prop where
 inv:BInv z.2.2 (news++hold)
 eff:Eff s z.2.2 news
 sup:z.2.2.eO=s.eO
 room:z.2.2.room=s.room - (bs.count 0:Nat)
 perm:(z.1.map Int.toNat).Perm (news++(bs.filter λb=>b !=0).map Int.toNat)
 pos:∀x∈z.1,0<=x
 zero:∀(k:Nat) (sh:ay),bs[k]? =some 0->ss[k]? =some sh->∃n∈news,z.1[k]? =some (n:Int)/\z.2.1[k]? =some ⟨dep,z.1.getD (k+1) 0,sh.es⟩/\z.2.2.read n=encS ⟨dep,z.1.getD (k+1) 0,sh.es⟩
 same:∀(k:Nat) (b:Int) (sh:ay),b≠0->bs[k]? =some b->ss[k]? =some sh->z.1[k]? =some b/\z.2.1[k]? =some sh
def disj_of{a b:GT}(h:BInv s (a++b)):∀x∈a,x∉b:=λx hx hb=>(List.nodup_append.1 h.nd).2.2 x hx x hb rfl
def putZ_ok(dep:Nat)(hdep:dep<=8):∀(bs:Fr) (ss:List ay) (s:aX) (hold:GT),BInv s hold->bs.length=ss.length->((bs.count 0:Nat):Int)<=s.room->(∀sh∈ss,sh.es.length<=9)->(∀b∈bs,0<=b)->
  ∃news,ZOk dep bs ss s hold (putZ dep bs ss s) news
 |[],[],s,hold,h,_,_,_,_=>⟨[],h,Eff.refl s,rfl,zce,Qco _,λx hx=>absurd hx QV,(λk sh hk=>zcX),(λk b sh _ hk=>zcX)⟩
 |[],_::_,_,_,_,hl,_,_,_=>by cases hl
 |_::_,[],_,_,_,hl,_,_,_=>by cases hl
 |b::bs,sh::ss,s,hold,h,hl,hr,h9,hb=>by
  have N8:(b::bs).count 0=bs.count 0+if b=0 then 1 else 0:=by rw[Qef];by_cases h0:b=0<;>simp[h0]
  rw[N8] at hr;obtain⟨news,z⟩:=putZ_ok dep hdep bs ss s hold h zaC (by split at hr<;>omega) (λx hx=>h9 x (Qs _ hx)) (λx hx=>hb x (Qs _ hx));have⟨Z,hZ⟩:=eX (putZ dep bs ss s);rw[putZ_cons,<-hZ];rw[<-hZ] at z;by_cases h0:b=0
  .rw[Xo h0] at N8 hr|-;have jy:=LX ⟨dep,Z.1.headD 0,sh.es⟩ (show aI (dep:Int) from⟨Mx,Mx⟩) (h9 sh (Qm ..));obtain⟨n,s',e,p⟩:=put_ok z.inv (encS ⟨dep,Z.1.headD 0,sh.es⟩) jy.1 jy.2 (by rw[z.room];omega);rw[e];have jX:n∉news:=λhm=>p.new (QB _ hm);refine⟨n::news,p.inv,?_,p.same.1.trans z.sup,?_,?_,?_,?_,?_⟩
   .exact z.eff.trans p.eff
   .show s'.room=_;rw[p.room,z.room,N8];omega
   .show(((n:Int)::Z.1).map Int.toNat).Perm _;rw[Zs,Xt,Qdv,h0];exact z.perm.cons n
   .intro x hx;obtain rfl|hx:=QA.1 hx
    .exact Xh _
    .exact z.pos x hx
   .intro k sh' hk hs
    cases k with
    |zero=>
     simp at hs;subst hs;refine⟨n,Qm ..,rfl,?_,?_⟩
     .show some _=some _;congr 2;exact head_getD _
     .show s'.read n=_;rw[p.rd,head_getD];rfl
    |succ k=>
     obtain⟨m,m1,m2,m3,m4⟩:=z.zero k sh' Wr zbq;refine⟨m,Qs _ m1,m2,m3,?_⟩;show s'.read m=_;rw[(p.other m λe=>jX (e▸m1)).1,m4];rfl
   .intro k b' sh' EB hk hs
    cases k with
    |zero=>simp at hk;exact absurd (hk.symm.trans h0) EB
    |succ k=>exact z.same k b' sh' EB Wr zbq
  .rw[Xd h0] at N8 hr|-;refine⟨news,z.inv,z.eff,z.sup,?_,?_,?_,?_,?_⟩
   .show Z.2.2.room=_;rw[z.room,N8];rfl
   .show((b::Z.1).map Int.toNat).Perm _;exact zfY
   .intro x hx;obtain rfl|hx:=QA.1 hx
    .exact hb _ (Qm ..)
    .exact z.pos x hx
   .intro k sh' hk hs
    cases k with
    |zero=>simp at hk;exact absurd hk h0
    |succ k=>exact z.zero k sh' Wr zbq
   .intro k b' sh' EB hk hs
    cases k with
    |zero=>simp at hk hs;subst hk hs;exact⟨rfl,rfl⟩
    |succ k=>exact z.same k b' sh' EB Wr zbq
structure Named(s:aX)(news:GT)(c c' :ak):Prop where
 ax:c'.ax=c.ax
 dep:c'.depth=c.depth
 lb:c'.blocks.length=c.blocks.length
 ls:c'.ah.length=c.blocks.length
 pos:∀x∈c'.blocks,0<=x
 zero:∀(k:Nat) (sh:ay),c.blocks[k]? =some 0->c.ah[k]? =some sh->∃n∈news,c'.blocks[k]? =some (n:Int)/\c'.ah[k]? =some ⟨c.depth,c'.blocks.getD (k+1) 0,sh.es⟩/\s.read n=encS ⟨c.depth,c'.blocks.getD (k+1) 0,sh.es⟩
 same:∀(k:Nat) (b:Int) (sh:ay),b≠0->c.blocks[k]? =some b->c.ah[k]? =some sh->c'.blocks[k]? =some b/\c'.ah[k]? =some sh
def Named.on(h:Named s news c c')(he:Eff s s' T)(hd:∀x∈news,x∉T):Named s' (T++news) c c' :=
 ⟨h.ax,h.dep,h.lb,h.ls,h.pos,λk sh h1 h2=>by
  obtain⟨n,n1,n2,n3,n4⟩:=h.zero k sh h1 h2;exact⟨n,QD _ n1,n2,n3,by rw[he.rd n (hd n n1),n4]⟩,h.same⟩
def Named.more(h:Named s news c c')(ht:∀x∈news,x∈T):Named s T c c' :=
 ⟨h.ax,h.dep,h.lb,h.ls,h.pos,λk sh h1 h2=>by
  obtain⟨n,n1,n2,n3,n4⟩:=h.zero k sh h1 h2;exact⟨n,ht n n1,n2,n3,n4⟩,h.same⟩
structure ComeOk(c:ak):Prop where
 d8:c.depth<=8
 len:c.blocks.length=c.ah.length
 y7:∀sh∈c.ah,sh.es.length<=9
 pos:∀b∈c.blocks,0<=b
def nameL_ok:∀(l:List ak) (s:aX) (hold:GT),BInv s hold->(∀c∈l,ComeOk c)->(((dD l).count 0:Nat):Int)<=s.room->
  ∃news,BInv (nameL l s).2 (news++hold)/\Eff s (nameL l s).2 news/\(nameL l s).2.eO=s.eO/\(nameL l s).2.room=s.room - ((dD l).count 0:Nat)/\
   ((dD (nameL l s).1).map Int.toNat).Perm (news++((dD l).filter λb=>b !=0).map Int.toNat)/\
   ∀(j:Nat) (c:ak),l[j]? =some c->∃c',(nameL l s).1[j]? =some c'/\Named (nameL l s).2 news c c'
 |[],s,hold,h,_,_=>⟨[],h,Eff.refl s,rfl,zce,Qco _,(λj c hj=>by simp at hj)⟩
 |c::r,s,hold,h,hc,hr=>by
  have cO:dD (c::r)=c.blocks++dD r:=rfl;rw[cO,Qbm] at hr;have ok:=hc c (Qm ..);obtain⟨n1,z⟩:=putZ_ok c.depth ok.d8 c.blocks c.ah s hold h ok.len Mx ok.y7 ok.pos;have hl:=putZ_len c.depth c.blocks c.ah s ok.len;have hN:Named (nameOne s c).2 n1 c (nameOne s c).1:=⟨rfl,rfl,hl.1,hl.2,z.pos,z.zero,z.same⟩;obtain⟨n2,i1,i2,i3,i4,i5,i6⟩:=nameL_ok r (nameOne s c).2 (n1++hold) z.inv (λc' TJ =>hc c' (Qs _ TJ)) (by show _<=(putZ c.depth c.blocks c.ah s).2.2.room;rw[z.room];omega);have hd:∀x∈n1,x∉n2:=λx h1 h2=>disj_of i1 x h2 (QB _ h1);refine⟨n2++n1,by rw[QY];exact i1,z.eff.trans i2,i3.trans z.sup,?_,?_,?_⟩
  .show(nameL r (nameOne s c).2).2.room=_;rw[i4,cO,Qbm];show(putZ c.depth c.blocks c.ah s).2.2.room - _=_;rw[z.room];omega
  .show((dD ((nameOne s c).1::(nameL r (nameOne s c).2).1)).map Int.toNat).Perm _;rw[cO];show(((nameOne s c).1.blocks++dD (nameL r (nameOne s c).2).1).map Int.toNat).Perm _;rw[QL,Qbh,QL];refine(z.perm.append i5).trans ?_;generalize (c.blocks.filter λb=>b !=0).map Int.toNat=X;generalize ((dD r).filter λb=>b !=0).map Int.toNat=Y;rw[QY,QY];refine List.Perm.trans ?_ (Qhz n1 n2 _);refine Qgc _ ?_;exact Qhz X n2 Y
  .intro j c' hj
   cases j with
   |zero=>
    simp at hj;subst hj;exact⟨_,rfl,hN.on i2 hd⟩
   |succ j=>
    obtain⟨c'',g1,g2⟩:=i6 j c' zaU;exact⟨c'',g1,g2.more λx hx=>QB _ hx⟩
def rootZ(bP:Fr):Nat->List Int->aX->List Int×aX
 |_,[],s=>([],s)
 |i,pg::r,s=>
  if pg=0 then
   let q:=s.put (encI 4 (bG bP i))
   let z:=rootZ bP (i+1) r (q.2.2.cM (3+i) q.1).2
   (q.1::z.1,z.2)
  else
   let z:=rootZ bP (i+1) r (s.cM (3+i) pg).2
   (pg::z.1,z.2)
def rootZ_cons(bP:Fr)(i:Nat)(pg:Int)(r:Fr)(s:aX):rootZ bP i (pg::r) s=
  if pg=0 then((s.put (encI 4 (bG bP i))).1::(rootZ bP (i+1) r ((s.put (encI 4 (bG bP i))).2.2.cM (3+i) (s.put (encI 4 (bG bP i))).1).2).1,(rootZ bP (i+1) r ((s.put (encI 4 (bG bP i))).2.2.cM (3+i) (s.put (encI 4 (bG bP i))).1).2).2)
  else(pg::(rootZ bP (i+1) r (s.cM (3+i) pg).2).1,(rootZ bP (i+1) r (s.cM (3+i) pg).2).2):=by rw[rootZ]
def rootOne_fold(bP ag:Fr):∀(r:Fr) (i:Nat) (s:aX),ag.drop i=r->(List.range' i r.length).foldl (dE bP ag) s=(rootZ bP i r s).2
 |[],_,_,_=>rfl
 |pg::r,i,s,h=>by
  have hi:i<ag.length:=by
   obtain h1|h1:=Qae i ag.length
   .exact h1
   .rw[Zu h1] at h;cases h
  have hg:ag.getD i 0=pg:=by have h1:(ag.drop i)[0]? =some pg:=(by rw[h];rfl);rw[Zb,XC] at h1;rw[Qe,h1];rfl
  have hd:ag.drop (i+1)=r:=by rw[<-Qav (i:=1) (j:=i),h];rfl
  rw[QF,Qhs,Qak,rootOne_fold bP ag r (i+1) _ hd,rootZ_cons];rw[dE,Xo hi,hg];by_cases h0:pg=0
  .rw[Xo h0,Xo h0]
  .rw[Xd h0,Xd h0]
def clearZ(s:aX)(i m:Nat):aX:=(List.range' i m).foldl (λs i=>(s.cM (3+i) 0).2) s
def roots_split(bP ag:Fr)(s:aX)(h5:ag.length<=5):(range 5).foldl (dE bP ag) s=clearZ (rootZ bP 0 ag s).2 ag.length (5 - ag.length):=by
 have e:range 5=List.range' 0 ag.length++List.range' ag.length (5 - ag.length):=by rw[List.range_eq_range'];have h1:=List.range'_append_1 (s:=0) (m:=ag.length) (n:=5 - ag.length);rw[QR,show ag.length+(5 - ag.length)=5 by omega] at h1;exact h1.symm
 rw[e,Qbv,rootOne_fold bP ag ag 0 s rfl];unfold clearZ;have key:∀(m i:Nat) (s:aX),ag.length<=i->(List.range' i m).foldl (dE bP ag) s=(List.range' i m).foldl (λs i=>(s.cM (3+i) 0).2) s:=by
  intro m;induction m with
  |zero=>intro i s _;rfl
  |succ m ih=>
   intro i s hi;rw[Qhs,Qak,Qak,ih (i+1) _ Mx];rw[dE,Xd Mx]
 exact key _ _ _ go
def root_eff{s:aX}{own:GT}(h:BInv s own){i:Nat}(hi:i<5){b:Int}(hb:b=0\/2<=b/\b<s.t.len):
  BInv (s.cM (3+i) b).2 own/\Eff s (s.cM (3+i) b).2 []/\(s.cM (3+i) b).2.room=s.room/\(∀j,(s.cM (3+i) b).2.root j=if j=3+i then b else s.root j)/\(s.cM (3+i) b).2.eO.marks=s.eO.marks/\(s.cM (3+i) b).2.eO.gen=s.eO.gen/\(s.cM (3+i) b).2.eO.blocks=s.eO.blocks:=by
 obtain⟨e,hI⟩:=root_inv h (i:=3+i) Mx Mx hb;rw[e];refine⟨hI,⟨λ_ _=>rfl,λ_ _=>rfl,rfl,λ_=>rfl,rfl,rfl,rfl,rfl,rfl,λ_ _=>rfl⟩,rfl,λj=> ?_,rfl,rfl,rfl⟩;show(s.eO.roots.set (3+i) b).getD j 0=_;rw[getD_setD _ _ _ _ _ (by rw[h.ok.sup.r8];omega)];rfl
structure RZ(bP:Fr)(i:Nat)(ag:Fr)(s:aX)(hold:GT)(z:List Int×aX)(news:GT):Prop where
 inv:BInv z.2 (news++hold)
 eff:Eff s z.2 news
 room:z.2.room=s.room - (ag.count 0:Nat)
 perm:(z.1.map Int.toNat).Perm (news++(ag.filter λb=>b !=0).map Int.toNat)
 len:z.1.length=ag.length
 pos:∀x∈z.1,0<=x
 zero:∀(k:Nat),ag[k]? =some 0->∃n∈news,z.1[k]? =some (n:Int)/\z.2.read n=encI 4 (bG bP (i+k))
 same:∀(k:Nat) (b:Int),b≠0->ag[k]? =some b->z.1[k]? =some b
 root:∀j,z.2.root j=if 3+i<=j/\j<3+i+ag.length then z.1.getD (j - 3 - i) 0 else s.root j
 sup:z.2.eO.marks=s.eO.marks/\z.2.eO.gen=s.eO.gen/\z.2.eO.blocks=s.eO.blocks
def rootZ_ok(bP:Fr):∀(ag:Fr) (i:Nat) (s:aX) (hold:GT),BInv s hold->i+ag.length<=5->((ag.count 0:Nat):Int)<=s.room->(∀b∈ag,b=0\/2<=b/\b<s.t.len)->
  ∃news,RZ bP i ag s hold (rootZ bP i ag s) news
 |[],i,s,hold,h,_,_,_=>⟨[],h,Eff.refl s,zce,Qco _,rfl,λx hx=>absurd hx QV,(λk hk=>zcX),(λk b _ hk=>zcX),(λj=>(Xd (by simp<;>omega)).symm),rfl,rfl,rfl⟩
 |pg::r,i,s,hold,h,h5,hr,hb=>by
  rw[QF] at h5;have N8:(pg::r).count 0=r.count 0+if pg=0 then 1 else 0:=by rw[Qef];by_cases h0:pg=0<;>simp[h0]
  rw[N8] at hr;rw[rootZ_cons];by_cases h0:pg=0
  .rw[Xo h0] at N8 hr|-;have jy:=lY (k:=4) (l:=bG bP i) IN (yk _ _);obtain⟨n,s',e,p⟩:=put_ok h (encI 4 (bG bP i)) jy.1 jy.2 Mx;rw[e];have hn:=(p.inv.own n (Qm ..));obtain⟨r1,r2,r3,r4,r5⟩:=root_eff p.inv (i:=i) Mx (b:=(n:Int)) (Or.inr ⟨Mx,Mx⟩);have⟨S1,hS1⟩:=eX ((s'.cM (3+i) (n:Int)).2);show ∃news,RZ bP i (pg::r) s hold ((n:Int)::(rootZ bP (i+1) r (s'.cM (3+i) (n:Int)).2).1,(rootZ bP (i+1) r (s'.cM (3+i) (n:Int)).2).2) news;rw[<-hS1] at r1 r2 r3 r4 r5|-;obtain⟨news,z⟩:=rootZ_ok bP r (i+1) S1 (n::hold) r1 Mx (by rw[r3,p.room];omega) (λx hx=>by rw[r2.len,p.len];exact hb x (Qs _ hx));have⟨Z,hZ⟩:=eX (rootZ bP (i+1) r S1);rw[<-hZ] at z|-;have jX:n∉news:=λhm=>disj_of z.inv n hm (Qm ..);have hE:=(p.eff.trans r2).mono λx hx=>hx;refine⟨news++[n],?_,hE.trans z.eff,?_,?_,?_,?_,?_,?_,?_,?_⟩
   .rw[QY];exact z.inv
   .show Z.2.room=_;rw[z.room,r3,p.room,N8];omega
   .show(((n:Int)::Z.1).map Int.toNat).Perm _;rw[Zs,Xt,Qdv,h0,QY];exact(z.perm.cons n).trans Qht.symm
   .show Z.1.length+1=r.length+1;rw[z.len]
   .intro x hx;obtain rfl|hx:=QA.1 hx
    .exact Xh _
    .exact z.pos x hx
   .intro k hk
    cases k with
    |zero=>
     refine⟨n,QD _ (Qx.2 rfl),rfl,?_⟩;show Z.2.read n=_;rw[z.eff.rd n jX,r2.rd n QV,p.rd,XC]
    |succ k=>
     obtain⟨m,m1,m2,m3⟩:=z.zero k Wr;exact⟨m,QB _ m1,m2,zcl⟩
   .intro k b EB hk
    cases k with
    |zero=>simp at hk;exact absurd (hk.symm.trans h0) EB
    |succ k=>exact z.same k b EB Wr
   .intro j;show Z.2.root j=_;rw[z.root j,QF];by_cases hj:3+(i+1)<=j/\j<3+(i+1)+r.length
    .rw[Xo hj,Xo Mx,show j - 3 - i=(j - 3 - (i+1))+1 by omega];rfl
    .rw[Xd hj,r4];by_cases hj2:j=3+i
     .rw[Xo hj2,Xo Mx,hj2,show 3+i - 3 - i=0 by omega];rfl
     .rw[Xd hj2,Xd Mx];unfold aX.root;rw[p.same.1]
   .show Z.2.eO.marks=_/\Z.2.eO.gen=_/\Z.2.eO.blocks=_;rw[z.sup.1,z.sup.2.1,z.sup.2.2,r5.1,r5.2.1,r5.2.2,p.same.1];exact⟨rfl,rfl,rfl⟩
  .rw[Xd h0] at N8 hr|-;obtain⟨r1,r2,r3,r4,r5⟩:=root_eff h (i:=i) Mx (b:=pg) (hb pg (Qm ..));have⟨S1,hS1⟩:=eX ((s.cM (3+i) pg).2);rw[<-hS1] at r1 r2 r3 r4 r5|-;obtain⟨news,z⟩:=rootZ_ok bP r (i+1) S1 hold r1 Mx (by rw[r3];omega) (λx hx=>by rw[r2.len];exact hb x (Qs _ hx));have⟨Z,hZ⟩:=eX (rootZ bP (i+1) r S1);rw[<-hZ] at z|-;refine⟨news,z.inv,(r2.trans z.eff).mono λx hx=>zdf,?_,?_,?_,?_,?_,?_,?_,?_⟩
   .show Z.2.room=_;rw[z.room,r3,N8];rfl
   .show((pg::Z.1).map Int.toNat).Perm _;exact zfY
   .show Z.1.length+1=r.length+1;rw[z.len]
   .intro x hx;obtain rfl|hx:=QA.1 hx
    .rcases hb _ (Qm ..) with h1|h1
     .omega
     .omega
    .exact z.pos x hx
   .intro k hk
    cases k with
    |zero=>simp at hk;exact absurd hk h0
    |succ k=>
     obtain⟨m,m1,m2,m3⟩:=z.zero k Wr;exact⟨m,m1,m2,zcl⟩
   .intro k b EB hk
    cases k with
    |zero=>simp at hk;subst hk;rfl
    |succ k=>exact z.same k b EB Wr
   .intro j;show Z.2.root j=_;rw[z.root j,QF];by_cases hj:3+(i+1)<=j/\j<3+(i+1)+r.length
    .rw[Xo hj,Xo Mx,show j - 3 - i=(j - 3 - (i+1))+1 by omega];rfl
    .rw[Xd hj,r4];by_cases hj2:j=3+i
     .rw[Xo hj2,Xo Mx,hj2,show 3+i - 3 - i=0 by omega];rfl
     .rw[Xd hj2,Xd Mx]
   .show Z.2.eO.marks=_/\Z.2.eO.gen=_/\Z.2.eO.blocks=_;rw[z.sup.1,z.sup.2.1,z.sup.2.2,r5.1,r5.2.1,r5.2.2];exact⟨rfl,rfl,rfl⟩
def clearZ_ok:∀(m i:Nat) (s:aX) (hold:GT),BInv s hold->i+m<=5->
  BInv (clearZ s i m) hold/\Eff s (clearZ s i m) []/\(clearZ s i m).room=s.room/\(∀j,(clearZ s i m).root j=if 3+i<=j/\j<3+i+m then 0 else s.root j)/\(clearZ s i m).eO.marks=s.eO.marks/\(clearZ s i m).eO.gen=s.eO.gen/\(clearZ s i m).eO.blocks=s.eO.blocks
 |0,i,s,hold,h,_=>⟨h,Eff.refl s,rfl,λj=>by rw[Xd Mx];rfl,rfl,rfl,rfl⟩
 |m+1,i,s,hold,h,h5=>by
  obtain⟨r1,r2,r3,r4,r5⟩:=root_eff h (i:=i) Mx (b:=0) (Or.inl rfl);obtain⟨q1,q2,q3,q4,q5⟩:=clearZ_ok m (i+1) _ hold r1 Mx;have e:clearZ s i (m+1)=clearZ (s.cM (3+i) 0).2 (i+1) m:=by unfold clearZ;rw[Qhs,Qak]
  rw[e];refine⟨q1,(r2.trans q2).mono λx hx=>by simp at hx,q3.trans r3,λj=> ?_,q5.1.trans r5.1,q5.2.1.trans r5.2.1,q5.2.2.trans r5.2.2⟩;rw[q4,r4];by_cases hj:3+(i+1)<=j/\j<3+(i+1)+m
  .rw[Xo hj,Xo Mx]
  .rw[Xd hj];by_cases hj2:j=3+i
   .rw[Xo hj2,Xo Mx]
   .rw[Xd hj2,Xd Mx]
def old_split:∀(at_ ag:Fr) (i:Nat) (g:Fr),(∀j:Nat,ag.getD (i+j) 0≠0->at_[j]? =some (ag.getD (i+j) 0))->
  ∃gp,foldI (dA ag) i at_ g=g++gp/\at_.Perm (gp++(ag.drop i).filter λb=>b !=0)
 |[],ag,i,g,h=>by
  refine⟨[],(Zi g).symm,?_⟩;have:(ag.drop i).filter (λb=>b !=0)=[]:=by
   rw[List.filter_eq_nil_iff];intro x hx;obtain⟨j,hj⟩:=Qab hx;rw[Zb] at hj;have hg:ag.getD (i+j) 0=x:=(by rw[Qe,hj];rfl);by_cases h0:x=0
   .simp[h0]
   .have:=h j (hg▸h0);simp at this
  rw[this];exact Qco _
 |a::r,ag,i,g,h=>by
  have hr:∀j:Nat,ag.getD (i+1+j) 0≠0->r[j]? =some (ag.getD (i+1+j) 0):=λj hj=>by have:=h (j+1) (by rw[show i+(j+1)=i+1+j by omega];exact hj);rw[show i+(j+1)=i+1+j by omega] at this;exact zdO
  have hd:(ag.drop i).filter (λb=>b !=0)=(if ag.getD i 0=0 then[] else[ag.getD i 0])++(ag.drop (i+1)).filter λb=>b !=0:=by
   obtain hl|hl:=Qae i ag.length
   .rw[Zd hl,Qdv,Qe,Qf hl];show(if(ag[i]!=0)=true then _ else _)=_;by_cases h0:ag[i]=0
    .rw[Xd (by simp[h0]),Qdu,Xo h0,QZ]
    .rw[Xo zas,Qdu,Xd h0,List.singleton_append]
   .rw[Zu hl,Zu Mx,Qe,QQ hl];rfl
  rw[hd];show ∃gp,foldI (dA ag) (i+1) r (dA ag g i a)=g++gp/\_;unfold dA;by_cases h0:ag.getD i 0=0
  .rw[Xo h0,Xo h0];obtain⟨gp,g1,g2⟩:=old_split r ag (i+1) (g++[a]) hr;refine⟨a::gp,?_,?_⟩
   .refine Qgg g1 ?_;rw[QY];rfl
   .rw[QZ];exact g2.cons a
  .rw[Xd h0,Xd h0];obtain⟨gp,g1,g2⟩:=old_split r ag (i+1) g hr;refine⟨gp,g1,?_⟩;have:=h 0 (by rw[XC];exact h0);rw[XC] at this;have this:=Qr this;rw[<-this];exact(g2.cons a).trans (Qht (l₁:=gp)).symm
variable{at_ wG r bP:Fr}{A B C G:List ak}{ae:List (Nat × Int)}
def ZF:List Int->Prop
 |[]=>True
 |b::r=>if b=0 then ZF r else ∀x∈r,x≠0
def ZF.cons{b:Int}:ZF (b::r)=if b=0 then ZF r else ∀x∈r,x≠0:=by rw[ZF]
def ZF.of_ne:∀{l:Fr},(∀x∈l,x≠0)->ZF l
 |[],_=>trivial
 |b::r,h=>by rw[ZF.cons,Xd (h b (Qm ..))];exact λx hx=>h x (Qs _ hx)
def ZF.zero(h:ZF r):ZF (0::r):=by rw[ZF.cons,Xo rfl];exact h
def ZF.tail:∀{l:Fr},ZF l->ZF l.tail
 |[],h=>h
 |b::r,h=>by
  rw[ZF.cons] at h;split at h
  .exact h
  .exact ZF.of_ne h
def ZF.next:∀{l:Fr} {k:Nat} {b:Int},ZF l->l[k]? =some b->b≠0->l[k+1]?≠some 0
 |[],_,_,_,h,_=>zaF
 |a::r,0,b,h,hk,hb=>by
  have hk:a=b:=Wr;rw[ZF.cons,Xd (hk▸hb)] at h;intro h0;have h0:r[0]? =some 0:=zas;exact h 0 (Qi h0) rfl
 |a::r,k+1,b,h,hk,hb=>by have hk:r[k]? =some b:=Wr;have h0:=ZF.next (ZF.tail h:ZF r) hk hb;simpa using h0
def keptStep_none:∀(L:List (Int×ay×Int)),L.foldl keptStep none=none
 |[]=>rfl
 |_::r=>keptStep_none r
def keptStep_iff:∀(L:List (Int×ay×Int)) (m:Int->Option ay),(L.foldl keptStep (some m)).isSome=true->(L.map (·.1)).Nodup/\∀t∈L,m t.1=some t.2.1/\t.2.1.next=t.2.2
 |[],m,_=>⟨Qfk,λt ht=>absurd ht QV⟩
 |t::r,m,h=>by
  rw[Qak] at h;unfold keptStep at h;dsimp only at h
  cases hm:m t.1 with
  |none=>
   rw[hm] at h;dsimp only at h;have h2:(r.foldl keptStep none).isSome=true:=h;rw[keptStep_none] at h2
   cases h2
  |some s=>
   rw[hm] at h;dsimp only at h;by_cases hs:s=t.2.1/\s.next=t.2.2
   .rw[Xo hs] at h;obtain⟨h1,h2⟩:=keptStep_iff r (mX m t.1) h;have h3:∀t'∈r,t'.1≠t.1/\m t'.1=some t'.2.1/\t'.2.1.next=t'.2.2:=λt' ht' =>by
     obtain⟨g1,g2⟩:=h2 t' ht';unfold mX at g1;split at g1
     .cases g1
     .rename_i bT;exact⟨bT,g1,g2⟩
    refine⟨Qez.2 ⟨λUG=> ?_,h1⟩,λt' ht' => ?_⟩
    .obtain⟨t',ht',e⟩:=QU.1 UG;exact(h3 t' ht').1 e
    .rcases QA.1 ht' with rfl|ht'
     .exact⟨by rw[hm,hs.1],hs.1▸hs.2⟩
     .exact(h3 t' ht').2
   .rw[Xd hs] at h;have h2:(r.foldl keptStep none).isSome=true:=h;rw[keptStep_none] at h2
    cases h2
def stood_some:∀(L:List (Int×ay)) (m:Int->Option ay) (x:Int) (sh:ay),L.foldl (λm p=>eM m p.1 p.2) m x=some sh->(x,sh)∈L\/m x=some sh
 |[],m,x,sh,h=> .inr h
 |p::r,m,x,sh,h=>by
  obtain h1|h1:=stood_some r _ x sh h
  .exact .inl (Qs _ h1)
  .have h1:(if x=p.1 then some p.2 else m x)=some sh:=h1;split at h1
   .rename_i hx
    have h1:=Qr h1;refine .inl ?_;rw[hx,<-h1];exact Qm ..
   .exact .inr h1
def trip_fst:∀(bs:Fr) (ss:List ay),bs.length=ss.length->(tripF bs ss).map (·.1)=bs.filter λb=>b !=0
 |[],[],_=>rfl
 |b::bs,s::ss,h=>by
  rw[tripF_cons,Qdv];by_cases h0:b=0
  .rw[Xo h0,Xd (by simp[h0])];exact trip_fst bs ss EQ
  .rw[Xd h0,Xo zas,Zs,trip_fst bs ss EQ]
def trip_get:∀(bs:Fr) (ss:List ay) (k:Nat) (b:Int) (sh:ay),bs[k]? =some b->ss[k]? =some sh->b≠0->(b,sh,bs.getD (k+1) 0)∈tripF bs ss
 |[],_,k,b,sh,h,_,_=>zaF
 |_::_,[],k,b,sh,_,h,_=>zaF
 |a::bs,s::ss,0,b,sh,h1,h2,h0=>by
  have h1:a=b:=zau;have h2:s=sh:=zbO;subst h1 h2;rw[tripF_cons,Xd h0];have:(a::bs).getD (0+1) 0=bs.headD 0:=by cases bs<;>rfl
  rw[this];exact Qm ..
 |a::bs,s::ss,k+1,b,sh,h1,h2,h0=>by
  have ih:=trip_get bs ss k b sh zau zbO h0;have e:(a::bs).getD (k+1+1) 0=bs.getD (k+1) 0:=by simp[Qe]
  rw[e,tripF_cons];split
  .exact ih
  .exact Qs _ ih
def stayV_cons(c:ak)(r:List ak):dD (c::r)=c.blocks++dD r:=rfl
def stayV_append(a b:List ak):dD (a++b)=dD a++dD b:=by unfold dD;rw[QP]
def stay_trip:∀(C:List ak),(∀c∈C,c.blocks.length=c.ah.length)->(C.flatMap trip).map (·.1)=(dD C).filter λb=>b !=0
 |[],_=>rfl
 |c::r,h=>by rw[QH,QL,stayV_cons,Qbh,stay_trip r λc' TJ =>h c' (Qs _ TJ)];rw[trip,trip_fst _ _ (h c (Qm ..))]
def kept_back(h:mr G C=true)(hl:∀c∈C,c.blocks.length=c.ah.length):
  ((dD C).filter λb=>b !=0).Nodup/\∀c∈C,∀(k:Nat) (b:Int) (sh:ay),c.blocks[k]? =some b->c.ah[k]? =some sh->b≠0->(∃g∈G,(b,sh)∈g.blocks.zip g.ah)/\sh.next=c.blocks.getD (k+1) 0:=by
 unfold mr at h;rw[keptM_eq] at h;obtain⟨h1,h2⟩:=keptStep_iff _ _ h;rw[stay_trip C hl] at h1;refine⟨h1,λc hc k b sh hb hs h0=> ?_⟩;obtain⟨g1,g2⟩:=h2 _ (QT.2 ⟨c,hc,trip_get _ _ k b sh hb hs h0⟩);refine⟨?_,g2⟩;unfold abL at g1;obtain g3|g3:=stood_some _ _ _ _ g1
 .obtain⟨g,hg,h3⟩:=QT.1 g3;exact⟨g,hg,h3⟩
 .cases g3
def zip_mem_get:∀(bs:Fr) (ss:List ay) (b:Int) (sh:ay),(b,sh)∈bs.zip ss->∃k:Nat,bs[k]? =some b/\ss[k]? =some sh
 |[],_,_,_,h=>zaF
 |_::_,[],_,_,h=>zaF
 |a::bs,s::ss,b,sh,h=>by
  rw[Qgr] at h;obtain h|h:=QA.1 h
  .have h:=Prod.mk.inj h;exact⟨0,by rw[h.1];rfl,by rw[h.2];rfl⟩
  .obtain⟨k,h1,h2⟩:=zip_mem_get bs ss b sh h;exact⟨k+1,zau,zbO⟩
structure HInv(s:aX)(dep:Nat)(ae:List (Nat×Int))(at_:Fr)(cs:List ak):Prop where
 inv:BInv s ((at_++dD cs).map Int.toNat)
 ok:MU s dep ae at_ cs
 ch:∀c∈cs,ur c
 ent:∀c∈cs,∀e∈c.all,0<=e.block
structure SwapG(A G B C:List ak):Prop where
 aaP:∃p q,qk 0 p A/\qk p q G/\qk p q C/\qk q 256 B
 ch:∀c∈C,ur c
 ent:∀c∈C,∀e∈c.all,0<=e.block
 zf:∀c∈C,ZF c.blocks
 kept:mr G C=true
def nodup_of_map{l:Fr}(h:(l.map Int.toNat).Nodup):l.Nodup:=by unfold List.Nodup at h|-;rw[Qhf] at h;exact h.imp λbT e=>bT zbl
def HInv.rg(h:HInv s dep ae at_ cs):∀x∈at_++dD cs,2<=x/\x<s.t.len:=λx hx=>by obtain⟨h1,h2,-⟩:=h.inv.own x.toNat (QU.2 ⟨x,hx,rfl⟩);omega
def HInv.nd(h:HInv s dep ae at_ cs):(at_++dD cs).Nodup:=nodup_of_map h.inv.nd
def goesV_eq:∀(G C:List ak),iY G C=(dD G).filter λx=> !((dD C).contains x)
 |[],_=>rfl
 |c::r,C=>by show(c.blocks.filter _)++iY r C=_;rw[stayV_cons,Qbh,goesV_eq r C]
def kept_perm(h:HInv s dep ae at_ (A++G++B))(hw:SwapG A G B C):(dD G).Perm (iY G C++(dD C).filter λb=>b !=0):=by
 have hl:∀c∈C,c.blocks.length=c.ah.length:=λc hc=>(hw.ch c hc).ok.len;obtain⟨k1,k2⟩:=kept_back hw.kept hl;have im:(dD G).Nodup:=by have:=h.nd;rw[stayV_append,stayV_append] at this;exact(List.nodup_append.1 (List.nodup_append.1 (List.nodup_append.1 this).2.1).1).2.1
 have kO:∀x∈dD G,x≠0:=λx hx=>by have:=h.rg x (QD _ (by rw[stayV_append,stayV_append];exact QB _ (QD _ hx)));omega
 have h1:=Qjc (λx=> !((dD C).contains x)) (dD G);rw[goesV_eq];refine h1.symm.trans (Qgc _ ?_);refine(List.perm_ext_iff_of_nodup (Qgj _ im) k1).2 λx=> ?_;rw[Qia,Qia];constructor
 .rintro⟨g1,g2⟩;refine⟨by simpa using g2,by simpa using kO x g1⟩
 .rintro⟨g1,g2⟩;refine⟨?_,by simpa using g1⟩;obtain⟨c,hc,hx⟩:=QT.1 g1;obtain⟨k,hk⟩:=Qab hx;have bQ:=(Ql.1 hk).1;obtain⟨⟨g,hg,hz⟩,-⟩:=k2 c hc k x _ hk (Qf (by rw[<-hl c hc];exact bQ)) (by simpa using g2);obtain⟨j,j1,-⟩:=zip_mem_get _ _ _ _ hz;exact QT.2 ⟨g,hg,Qi j1⟩
def pgV_len(at_ wG bP:Fr):(jF at_ wG bP).length=kB bP.length:=by simp[jF]
def pgV_get{k:Nat}(h:k<kB bP.length):(jF at_ wG bP)[k]? =some (qv at_ wG bP k):=by rw[jF,Qt,Qam h];rfl
def pages_at{j:Nat}(h:(jF at_ wG bP).getD j 0≠0):at_[j]? =some ((jF at_ wG bP).getD j 0)/\(bG bP j).contains 0=false/\bG bP j=bG wG j:=by
 have hj:j<kB bP.length:=by
  obtain h1|h1:=Qae j (kB bP.length)
  .exact h1
  .rw[Qe,QQ (by rw[pgV_len];exact h1)] at h;exact absurd rfl h
 have e:(jF at_ wG bP).getD j 0=qv at_ wG bP j:=by rw[Qe,pgV_get hj];rfl
 rw[e] at h|-;unfold qv at h|-;split at h
 .rename_i hc
  rw[Xo hc,Qe,Qf hc.1];exact⟨rfl,by simpa using hc.2.1,hc.2.2⟩
 .exact absurd rfl h
def hold_perm(h:HInv s dep ae at_ (A++G++B))(hw:SwapG A G B C)(wG bP:Fr):
  ∃gp,foldI (dA (jF at_ wG bP)) 0 at_ (iY G C)=iY G C++gp/\(at_++dD (A++G++B)).Perm ((iY G C++gp)++((jF at_ wG bP).filter (λb=>b !=0)++(dD A++(dD B++(dD C).filter λb=>b !=0)))):=by
 obtain⟨gp,g1,g2⟩:=old_split at_ (jF at_ wG bP) 0 (iY G C) (λj hj=>by rw[QR] at hj|-;exact(pages_at hj).1);refine⟨gp,g1,?_⟩;rw[Zl] at g2;have g3:=kept_perm h hw;rw[stayV_append,stayV_append];refine List.perm_iff_count.2 λa=> ?_;have e1:=g2.count_eq a;have e2:=g3.count_eq a;simp only[Qbm] at e1 e2|-;omega
variable{cells:List aM}
def Named.es(h:Named s news c c')(hl:c.blocks.length=c.ah.length):c'.ah.map (·.es)=c.ah.map (·.es):=by
 refine Qal λk=> ?_;rw[Qt,Qt];obtain hk|hk:=Qae k c.blocks.length
 .have hb:c.blocks[k]? =some c.blocks[k]:=Qf hk;have hs:c.ah[k]? =some (c.ah[k]'(by rw[<-hl];exact hk)):=Qf _;by_cases h0:c.blocks[k]=0
  .obtain⟨n,-,-,h3,-⟩:=h.zero k _ zdR hs;rw[h3,hs];rfl
  .obtain⟨-,h3⟩:=h.same k _ _ h0 hb hs;rw[h3,hs]
 .rw[QQ (h.ls▸hk),QQ (hl▸hk)]
def all_map(c:ak):c.all=(c.ah.map (·.es)).flatten:=by unfold ak.all;rfl
def tail_es(l:List ay):(l.tail).map (·.es)=(l.map (·.es)).tail:=by cases l<;>rfl
def all_of_es(h:c'.ah.map (·.es)=c.ah.map (·.es)):c'.all=c.all/\c'.ah.tail.flatMap (·.es)=c.ah.tail.flatMap (·.es):=by
 constructor
 .rw[all_map,all_map,h]
 .show(c'.ah.tail.map (·.es)).flatten=(c.ah.tail.map (·.es)).flatten;rw[tail_es,tail_es,h]
def ur.OA(h:ur c){sh:ay}(hs:sh∈c.ah){n:Int}(h1:n<4096):bC ⟨c.depth,n,sh.es⟩=true:=by have h2:=h.ok.right sh hs;have hm:∀e∈sh.es,e∈c.all:=λe he=>QT.2 ⟨sh,hs,he⟩;have h3:=Mw (λe he=>(h.ent e (hm e he)).u) h.ok.d8 λe he=>h.ok.its e (hm e he);have h8:=h.ok.d8;unfold bC at h2|-;simp only[XR,Qad] at h2|-;obtain⟨⟨⟨⟨⟨-,-⟩,g3⟩,g4⟩,g5⟩,-⟩:=h2;exact⟨⟨⟨⟨⟨Mx,h1⟩,g3⟩,g4⟩,g5⟩,h3⟩
def Named.chG(h:Named s news c c')(hc:ur c)(hr:∀x∈c'.blocks,0<=x/\x<4096):ur c' :=by
 have he:=h.es hc.ok.len;obtain⟨e1,e2⟩:=all_of_es he;have hle:c'.ah.length=c.ah.length:=by rw[h.ls,hc.ok.len]
 refine⟨⟨λh0=> ?_,by rw[h.lb,h.ls],by rw[h.dep];exact hc.ok.d8,by rw[h.ax];exact hc.ok.f256,by rw[h.ax,h.dep];exact hc.ok.mod,λsh hs=> ?_,λsh hs=> ?_,by rw[e1];exact hc.ok.once,λe hm=> ?_,by rw[e2];exact hc.ok.one⟩,by rw[e1];exact hc.ent,hr⟩
 .rw[h0] at hle;exact hc.ok.ne (List.length_eq_zero_iff.1 hle.symm)
 .obtain⟨k,hk⟩:=Qab hs;have bQ:k<c.blocks.length:=by rw[<-h.ls];exact(Ql.1 hk).1
  have hb:=Qf bQ;have hs' :c.ah[k]? =some (c.ah[k]'(hc.ok.len▸bQ)):=Qf _;by_cases h0:c.blocks[k]=0
  .obtain⟨n,-,-,h3,-⟩:=h.zero k _ zdR hs';rw[hk] at h3;rw[Qr h3];refine hc.OA (QI _) ?_;rw[Qe];cases h4:c'.blocks[k+1]? with
   |none=>decide
   |some x=>exact(hr x (Qi h4)).2
  .obtain⟨-,h3⟩:=h.same k _ _ h0 hb hs';rw[hk] at h3;rw[Qr h3];exact hc.ok.right _ (QI _)
 .have h1:sh.es∈(c'.ah.tail).map (·.es):=QU.2 ⟨sh,hs,rfl⟩;rw[tail_es,he,<-tail_es] at h1;obtain⟨sh',hs',e⟩:=QU.1 h1;rw[<-e];exact hc.ok.full sh' hs'
 .rw[h.ax,h.dep];rw[e1] at hm;exact hc.ok.its e hm
def MU.mem{ae:List (Nat×Int)}{at_:Fr}{cs:List ak}(h:MU s dep ae at_ cs)(hc:c∈cs):JA s c/\dz c=true:=by obtain⟨j,hj⟩:=Qab hc;have hl:=(Ql.1 hj).1;have hs:ae[j]? =some (ae[j]'(by rw[<-h.len];exact hl)):=Qf _;obtain⟨h1,h2,-⟩:=h.ch j _ c hs hj;exact⟨h1,h2⟩
def ur.dz(h:ur c):Go.Proofs.YtjjomjobllcleaaGreat.dz c=true:=
 (FT c λs hs e he=>(h.ent e (QT.2 ⟨s,hs,he⟩)).u.1).2 h.ok
def JA.eff{s' :aX}(h:JA s c)(hl:s'.t.len=s.t.len)(hr:∀x∈c.blocks,s'.read x.toNat=s.read x.toNat):JA s' c:=
 ⟨h.len,h.ne,λk hk=>by
  obtain⟨b,sh,h1,h2,h3,h4,h5,h6⟩:=h.pg k hk;have:=hr _ (Qi h1);rw[Xt] at this;exact⟨b,sh,h1,h2,by rw[hl];exact h3,h4,by rw[this];exact h5,h6⟩,h.nd⟩
def deepV_ge(cells:List aM):∀c∈cells,c.depth<=jC cells:=by
 have h2:∀(l:List aM) (m:Nat),m<=l.foldl (λm c=>max m c.depth) m/\∀c∈l,c.depth<=l.foldl (λm c=>max m c.depth) m:=by
  intro l;induction l with
  |nil=>intro m;exact⟨go,λc hc=>absurd hc QV⟩
  |cons a r ih=>
   intro m;obtain⟨i1,i2⟩:=ih (max m a.depth);refine⟨Qh (Nat.le_max_left _ _) i1,λc hc=> ?_⟩;obtain rfl|hc:=QA.1 hc
   .exact Qh (Nat.le_max_right _ _) i1
   .exact i2 c hc
 exact(h2 cells 0).2
def deepV_mem(cells:List aM):jC cells=0\/∃c∈cells,c.depth=jC cells:=by
 have h2:∀(l:List aM) (m:Nat),l.foldl (λm c=>max m c.depth) m=m\/∃c∈l,c.depth=l.foldl (λm c=>max m c.depth) m:=by
  intro l;induction l with
  |nil=>intro m;exact .inl rfl
  |cons a r ih=>
   intro m;obtain h|⟨c,hc,h⟩:=ih (max m a.depth)
   .rcases Nat.le_total m a.depth with hle|hle
    .refine .inr ⟨a,Qm ..,?_⟩;show a.depth=r.foldl _ (max m a.depth);rw[h,Nat.max_eq_right hle]
    .refine .inl ?_;show r.foldl _ (max m a.depth)=m;rw[h,Nat.max_eq_left hle]
   .exact .inr ⟨c,Qs _ hc,h⟩
 exact h2 cells 0
def deep_cells(hl:cells.length=256)(ht:qk 0 256 l)(h:∀n,n<256->cells[n]?.map (·.depth)=some (match Bf l n with|some c=>c.depth|none=>0)):
  jC cells<=8/\(∀c∈l,c.depth<=jC cells)/\∃c∈l,c.depth=jC cells:=by
 have h1:∀c∈l,c.depth<=jC cells:=λc hc=>by
  obtain⟨g1,g2,g3,g4⟩:=ht.mem hc;have hp:=Qba (8 - c.depth);have hf:=h c.ax Mx;rw[ht.find hc its_self] at hf;cases hx:cells[c.ax]? with
  |none=>rw[hx] at hf;cases hf
  |some x=>
   rw[hx] at hf;have hf:x.depth=c.depth:=Qr hf;rw[<-hf];exact deepV_ge _ _ (Qi hx)
 have h2:∃c∈l,c.depth=jC cells:=by
  obtain h0|⟨x,hx,e⟩:=deepV_mem cells
  .obtain⟨c,hc,-⟩:=ht.some (n:=0) ⟨go,Fd⟩;exact⟨c,hc,QE (h1 c hc) (h0▸lm)⟩
  .obtain⟨n,hn⟩:=Qab hx;have yW:=(Ql.1 hn).1;rw[hl] at yW;obtain⟨c,hc,g1,-⟩:=ht.some (n:=n) ⟨lm,yW⟩;have hf:=h n yW;rw[g1,hn] at hf;have hf:x.depth=c.depth:=Qr hf;exact⟨c,hc,by rw[<-hf,e]⟩
 obtain⟨c,hc,e⟩:=h2;exact⟨by rw[<-e];exact(ht.mem hc).2.2.1,h1,c,hc,e⟩
def fillV_of{f:Nat->Int}(hd:dep<=8)(h:∀n,n<256->cells[n]?.map (·.block)=some (f n)):dS dep cells=(range (2^dep)).map λn=>f (n*2^(8 - dep)):=by
 unfold dS;refine Zj λn hn=> ?_;have hn:=Zm.1 hn;have aJ:n*2^(8 - dep)<256:=by rw[<-pow8 hd];exact Qhx hn (Qba _)
 have h1:=h _ aJ;rw[Qe];cases hx:cells[n*2^(8 - dep)]? with
 |none=>rw[hx] at h1;cases h1
 |some x=>rw[hx] at h1;exact Qr h1
def part_map(f:Nat->Int)(N i:Nat):bG ((range N).map f) i=(((range N).drop (61*i)).take 61).map f:=by rw[bG,<-Qgt,<-Qcn]
def part_same(f g:Nat->Int)(N i:Nat)(h:∀n,n<N->f n≠0->g n=f n)(hz:(bG ((range N).map f) i).contains 0=false):bG ((range N).map g) i=bG ((range N).map f) i:=by
 rw[part_map] at hz|-;rw[part_map];refine Zj λn hn=>h n ?_ λh0=> ?_
 .exact Zm.1 (Q6 (Za hn))
 .have:(0:Int)∈(((range N).drop (61*i)).take 61).map f:=QU.2 ⟨n,hn,h0⟩;rw[<-Qga] at this;rw[hz] at this;cases this
def tile_start(hd:dep<=8):∀(l:List ak) (x y:Nat),qk x y l->(∀c∈l,c.depth<=dep)->∀(j:Nat) (c:ak),l[j]? =some c->c.ax=x+aC (segsOf dep l) j*2^(8 - dep)
 |[],_,_,_,_,_,_,h=>zaF
 |a::r,x,y,h,hdep,0,c,hj=>by
  have hj:a=c:=zaU;rw[<-hj,qS,Xz];exact h.1
 |a::r,x,y,h,hdep,j+1,c,hj=>by
  obtain⟨h1,h2,h3,h4⟩:=h;have ih:=tile_start hd r _ y h4 (λc' TJ =>hdep c' (Qs _ TJ)) j c zaU;have had:=hdep a (Qm ..);have e:aC (segsOf dep (a::r)) (j+1)=2^(dep - a.depth)+aC (segsOf dep r) j:=by unfold aC segsOf;rw[Zs,Zw,Zs,Qgs]
  have hp:2^(8 - a.depth)=2^(dep - a.depth)*2^(8 - dep):=by rw[<-Qch,show 8 - a.depth=dep - a.depth+(8 - dep) by omega]
  rw[ih,e,hp,Qfs,XB]
def firsts_sub:∀(l:List ak),(∀c∈l,c.blocks≠[])->(l.map λc=>c.blocks.getD 0 0).Sublist (dD l)
 |[],_=>Qhi _
 |c::r,h=>by
  rw[Zs,stayV_cons];have ih:=firsts_sub r λc' TJ =>h c' (Qs _ TJ);have h1:=h c (Qm ..)
  cases hb:c.blocks with
  |nil=>exact absurd hb h1
  |cons b bs=>
   rw[Qaj];refine List.Sublist.cons_cons _ ?_;exact ih.trans (Qin _ _)
def seg_of(ht:qk 0 256 l)(hd:dep<=8)(hdep:∀c∈l,c.depth<=dep)(bT:∀c∈l,c.blocks≠[])(im:(dD l).Nodup)(hr:∀x∈dD l,0<x/\x<4096):eQ dep (segsOf dep l):=by
 refine⟨hd,?_,?_,λsg Ay=> ?_,λj sg hj=> ?_⟩
 .rw[expand_segs hd ht hdep];simp
 .have e:(segsOf dep l).map Prod.snd=l.map λc=>c.blocks.getD 0 0:=by rw[segsOf,Qbg];rfl
  rw[e];exact(firsts_sub l bT).nodup im
 .unfold segsOf at Ay;obtain⟨c,hc,rfl⟩:=QU.1 Ay;exact hr _ ((firsts_sub l bT).subset (QU.2 ⟨c,hc,rfl⟩))
 .unfold segsOf at hj;rw[Qt] at hj;cases hc:l[j]? with
  |none=>rw[hc] at hj;cases hj
  |some c=>
   rw[hc] at hj;have hj:=Qr hj;have oS:=Qi hc;have hcd:=hdep c oS;have cO:=tile_start hd l 0 256 ht hdep j c hc;rw[QR] at cO;refine⟨dep - c.depth,Mx,by rw[<-hj],?_⟩;have hm:=(ht.mem oS).2.2.2;have hp:2^(8 - c.depth)=2^(8 - dep)*2^(dep - c.depth):=zaP;rw[cO,hp,Qdi (aC _ _),Nat.mul_mod_mul_left] at hm;rw[<-hj];show aC (segsOf dep l) j%2^(dep - c.depth)=0;obtain h0|h0:=Nat.mul_eq_zero.1 hm
   .exact absurd h0 (XO (Qba _))
   .exact h0
def pgN_eq(n:Nat):aR (n:Int)=(kB n:Int):=by unfold kB aR;split<;>omega
def pgN_le{n:Nat}(h:n<=256):kB n<=5:=by have:=pgN_eq n;unfold aR at this;split at this<;>omega
def pow_le8{d:Nat}(h:d<=8):2^d<=256:=Qcr (by decide:0<2) h
structure NamedC(c c' :ak):Prop where
 ax:c'.ax=c.ax
 dep:c'.depth=c.depth
 es:c'.ah.map (·.es)=c.ah.map (·.es)
 lb:c'.blocks.length=c.blocks.length
 same:∀(k:Nat) (b:Int) (sh:ay),b≠0->c.blocks[k]? =some b->c.ah[k]? =some sh->c'.blocks[k]? =some b/\c'.ah[k]? =some sh
structure SwapOk(s:aX)(dep:Nat)(at_:Fr)(A C B:List ak)(room:Int)(s' :aX)(at' :Fr)(C' :List ak):Prop where
 inv:HInv s' dep (segsOf dep (A++C' ++B)) at' (A++C' ++B)
 len:C'.length=C.length
 named:∀(j:Nat) (c:ak),C[j]? =some c->∃c',C'[j]? =some c'/\NamedC c c'
 room:s'.room=room
 eff:∃T,Eff s s' T/\∀x∈T,(x:Int)∉s.ag++s.au
 marks:s'.eO.marks=s.eO.marks
 gen:s'.eO.gen=s.eO.gen
 blocks:s'.eO.blocks=s.eO.blocks
 low:∀j,j<3->s'.root j=s.root j
def free_count{own:GT}(h:BInv s own)(l:Fr)(hl:∀x∈l,x.toNat∈own):(l.countP λx=>s.ik x.toNat&&(s.t.get x.toNat==1))=(l.map Int.toNat).countP λx=>s.ik x:=by rw[Qid];refine Qeh λx hx=> ?_;have:=(h.own _ (hl x hx)).2.2.1;simp[this]
def swap_ok{dep:Nat}{ae:List (Nat×Int)}{at_:Fr}{A G B C:List ak}(h:HInv s dep ae at_ (A++G++B))(hw:SwapG A G B C)
  (BH:¬gO s (bt dep ae at_ G C).gone<qt (bt dep ae at_ G C).ag C):
  ∃at' C',SwapOk s (bt dep ae at_ G C).dep at_ A C B (gO s (bt dep ae at_ G C).gone - qt (bt dep ae at_ G C).ag C) (BQ s (bt dep ae at_ G C) C) at' C' :=by
 obtain⟨p,q,tA,tG,tC,tB⟩:=hw.aaP;obtain⟨hsegs,hdep0⟩:=h.ok.ae;have hT0:=h.ok.aaP;have qc:=h.ok.dir.oH.d8;have hcells:bc dep ae=(range 256).map (cellAt (A++G++B)):=by rw[hsegs];exact cells_segs qc hT0 hdep0
 have hlC:∀c∈C,c.blocks.length=c.ah.length:=λc hc=>(hw.ch c hc).ok.len;obtain⟨-,hkb⟩:=kept_back hw.kept hlC;obtain⟨cells,uf⟩:∃x,x=cJ (bc dep ae) C:=⟨_,rfl⟩;obtain⟨d,hd⟩:∃x,x=jC cells:=⟨_,rfl⟩;obtain⟨bP,kr⟩:∃x,x=dS d cells:=⟨_,rfl⟩;obtain⟨ag,tz⟩:∃x,x=jF at_ (expand ae) bP:=⟨_,rfl⟩;obtain⟨gp,JM,hperm⟩:=hold_perm h hw (expand ae) bP;rw[<-tz] at JM hperm;obtain⟨gone,hgone⟩:∃x,x=iY G C++gp:=⟨_,rfl⟩;have hPL:bt dep ae at_ G C=⟨cells,d,bP,ag,gone⟩:=by unfold bt;simp only[<-uf,<-hd,<-kr,<-tz,JM,<-hgone]
 rw[hPL] at BH|-;dsimp only at BH|-;rw[<-hgone] at hperm;obtain⟨R,hR⟩:∃x,x=ag.filter (λb=>b !=0)++(dD A++(dD B++(dD C).filter λb=>b !=0)):=⟨_,rfl⟩;rw[<-hR] at hperm;have i0:BInv s (gone.map Int.toNat++R.map Int.toNat):=by rw[<-QL];exact h.inv.perm (hperm.map _)
 obtain⟨i1,e1,r1,u1⟩:=downs_ok (gone.map Int.toNat) (R.map Int.toNat) s i0;rw[<-downsV_eq] at i1 e1 r1 u1;obtain⟨s1,Ip⟩:∃x,x=dN s gone:=⟨_,rfl⟩;rw[<-Ip] at i1 e1 r1 u1;have BK:gO s gone=s1.room:=by rw[r1];unfold gO;rw[free_count i0 gone λx hx=>QB _ (QU.2 ⟨x,hx,rfl⟩)]
 rw[BK] at BH|-;have hputs:qt ag C=ag.count 0+(dD C).count 0:=by unfold qt;rw[Qbm]
 rw[hputs] at BH|-;have hcome:∀c∈C,ComeOk c:=λc hc=>⟨(hw.ch c hc).ok.d8,hlC c hc,λsh hs=>(fZ ((hw.ch c hc).ok.right sh hs)).1,λx hx=>((hw.ch c hc).Ej x hx).1⟩;obtain⟨n1,i2,e2,u2,r2,p2,f2⟩:=nameL_ok C s1 (R.map Int.toNat) i1 hcome Mx;have hlN:=nameL_len C s1;have htN:=name_tile C s1 p q tC;have hnamed:=λn (hn:n<256)=>named_cells tA tG tC (B:=B) s1 n hn;have hatI:=λn=>name_atI C s1 0 n;have kV:=done_fold C 0 s1 cells;obtain⟨C',hC'⟩:∃x,x=(nameL C s1).1:=⟨_,rfl⟩;obtain⟨s2,Ey⟩:∃x,x=(nameL C s1).2:=⟨_,rfl⟩;rw[<-hC',<-Ey] at kV;rw[<-hC'] at hlN htN p2 hatI;rw[<-Ey] at i2 e2 u2 r2;simp only[<-hC'] at hnamed f2;simp only[<-Ey] at f2;rw[<-hcells] at hnamed;rw[<-uf] at hnamed;obtain⟨ks,hcs'⟩:∃x,x=A++C' ++B:=⟨_,rfl⟩;rw[<-hcs'] at hnamed;have tT:qk 0 256 ks :=by rw[hcs'];exact qk.append.2 ⟨q,qk.append.2 ⟨p,tA,htN⟩,tB⟩
 have oJ:cells.length=256:=by
  rw[uf];have key:∀(l:List ak) (i:Nat) (cl:List aM),(foldI fE i l cl).length=cl.length:=by
   intro l;induction l with
   |nil=>intro i cl;rfl
   |cons c r ih=>exact zge
  unfold cJ;rw[key,hcells];simp
 have hdeep:=deep_cells oJ tT λn hn=>(hnamed n hn).2.1;rw[<-hd] at hdeep;obtain⟨d8,dle,cdeep,cdm,cde⟩:=hdeep;have hslots:bP=(range (2^d)).map λn=>firstAt (A++C++B) (n*2^(8 - d)):=by rw[kr];exact fillV_of d8 λn hn=>(hnamed n hn).2.2
 have hslots' :dS d (cells.map (nameX 0 C'))=(range (2^d)).map λn=>firstAt ks (n*2^(8 - d)):=fillV_of d8 λn hn=>(hnamed n hn).1;have hexp:expand (segsOf d ks)=dS d (cells.map (nameX 0 C')):=by rw[hslots',expand_segs d8 tT dle]
 obtain⟨slots',hsl'⟩:∃x,x=dS d (cells.map (nameX 0 C')):=⟨_,rfl⟩;rw[<-hsl'] at hslots' hexp;have hsll:bP.length=2^d:=by rw[hslots];simp
 have dh:ag.length=kB (2^d):=by rw[tz,pgV_len,hsll]
 have hp5:ag.length<=5:=by rw[dh];exact pgN_le (pow_le8 d8)
 have hatr:=h.rg;have kO:∀b∈ag,b=0\/2<=b/\b<s2.t.len:=λb hb=>by
  obtain⟨j,hj⟩:=Qab hb;by_cases h0:b=0
  .exact .inl h0
  .have hg:ag.getD j 0=b:=(by rw[Qe,hj];rfl);have h1:=pages_at (at_:=at_) (wG:=expand ae) (bP:=bP) (j:=j) zcO;exact zfk
 obtain⟨n2,z⟩:=rootZ_ok slots' ag 0 s2 (n1++R.map Int.toNat) i2 Mx (by rw[r2];omega) kO;have hsplit:=roots_split slots' ag s2 hp5;obtain⟨Z,hZ⟩:∃x,x=rootZ slots' 0 ag s2:=⟨_,rfl⟩;rw[<-hZ] at z hsplit;obtain⟨i4,e4,r4,o4,u4⟩:=clearZ_ok (5 - ag.length) ag.length Z.2 _ z.inv Mx;have hD:BQ s ⟨cells,d,bP,ag,gone⟩ C=clearZ Z.2 ag.length (5 - ag.length):=by show(range 5).foldl (dE (dS d (foldI bB 0 C (dN s gone,cells)).2) ag) (foldI bB 0 C (dN s gone,cells)).1=_;rw[<-Ip,kV];show(range 5).foldl (dE (dS d (cells.map (nameX 0 C'))) ag) s2=_;rw[<-hsl',hsplit]
 rw[hD];obtain⟨s4,hs4⟩:∃x,x=clearZ Z.2 ag.length (5 - ag.length):=⟨_,rfl⟩;rw[<-hs4] at i4 e4 r4 o4 u4|-;obtain⟨at',hat'⟩:∃x,x=Z.1:=⟨_,rfl⟩;have hE:Eff s s4 ([]++(n2++(n1++gone.map Int.toNat))):=((e1.trans e2).trans z.eff).trans e4;have hlen4:s4.t.len=s.t.len:=hE.len;have hn4:s4.t.len<=4096:=i4.tok.n1;have cO:dD ks =dD A++dD C' ++dD B:=by rw[hcs',stayV_append,stayV_append]
 have zm:BInv s4 ((at' ++dD ks).map Int.toNat):=by refine i4.perm (List.perm_iff_count.2 λa=> ?_);have c1:=z.perm.count_eq a;have c2:=p2.count_eq a;rw[<-hat'] at c1;rw[cO,hR];simp only[QL,Qbm] at c1 c2|-;omega
 have hrg:∀x∈at' ++dD ks,2<=x/\x<s4.t.len:=λx hx=>by obtain⟨h1,h2,-⟩:=zm.own x.toNat (QU.2 ⟨x,hx,rfl⟩);omega
 have im:(at' ++dD ks).Nodup:=nodup_of_map zm.nd;have hndS:(dD ks).Nodup:=(List.nodup_append.1 im).2.1;have hrd:∀x∈R,s4.read x.toNat=s.read x.toNat:=λx hx=>by
  have hm:x.toNat∈R.map Int.toNat:=QU.2 ⟨x,hx,rfl⟩;refine hE.rd _ λUG=> ?_;rw[QZ] at UG;obtain h1|h1:=Qz.1 UG
  .exact disj_of z.inv _ h1 (QD _ hm)
  obtain h1|h1:=Qz.1 h1
  .exact disj_of i2 _ h1 hm
  .exact disj_of i0 _ h1 hm
 have hrd2:∀x∈n1,s4.read x=s2.read x:=λx hx=>by rw[e4.rd x QV,z.eff.rd x λhm=>disj_of z.inv x hm (QB _ hx)]
 have hRA:∀x∈dD A,x∈R:=λx hx=>by rw[hR];exact QD _ (QB _ hx)
 have hRB:∀x∈dD B,x∈R:=λx hx=>by rw[hR];exact QD _ (QD _ (QB _ hx))
 have hRC:∀x∈dD C,x≠0->x∈R:=λx hx h0=>by rw[hR];exact QD _ (QD _ (QD _ (Qia.2 ⟨hx,zas⟩)))
 have hRP:∀x∈ag,x≠0->x∈R:=λx hx h0=>by rw[hR];exact QB _ (Qia.2 ⟨hx,zas⟩)
 have uA:∀c∈ks,∀x∈c.blocks,0<=x/\x<4096:=λc hc x hx=>by have:=hrg x (QD _ (QT.2 ⟨c,hc,hx⟩));omega
 have hold:∀c∈A++B,ur c/\JA s4 c/\∀e∈c.all,0<=e.block:=λc hc=>by
  have pV:c∈A++G++B:=by
   obtain h1|h1:=Qz.1 hc
   .exact QB _ (QB _ h1)
   .exact QD _ h1
  refine⟨h.ch c pV,(h.ok.mem pV).1.eff hlen4 λx hx=>hrd x ?_,h.ent c pV⟩;obtain h1|h1:=Qz.1 hc
  .exact hRA x (QT.2 ⟨c,h1,hx⟩)
  .exact hRB x (QT.2 ⟨c,h1,hx⟩)
 have zj:∀(j:Nat) (c c' :ak),C[j]? =some c->C'[j]? =some c'->Named s2 n1 c c'->ur c'/\JA s4 c' :=λj c c' hj Eg hN=>by
  have oS:=Qi hj;have hcm' :c'∈ks :=by rw[hcs'];exact QB _ (QD _ (Qi Eg))
  have hG:=hw.ch c oS;have EB :=uA c' hcm';have hG' :=hN.chG hG EB;refine⟨hG',by rw[hN.lb,hN.ls],hG'.ok.ne,λk hk=> ?_,?_⟩
  .rw[hN.lb] at hk;have hb:c.blocks[k]? =some c.blocks[k]:=Qf hk;have hs:c.ah[k]? =some (c.ah[k]'(by rw[<-hG.ok.len];exact hk)):=Qf _;have hsm:=Qi hs;by_cases h0:c.blocks[k]=0
   .obtain⟨n,m1,m2,m3,m4⟩:=hN.zero k _ zdR hs;have hn:=hrg n (QD _ (QT.2 ⟨c',hcm',Qi m2⟩));have fu:0<=c'.blocks.getD (k+1) 0/\c'.blocks.getD (k+1) 0<4096:=by
     rw[Qe]
     cases h4:c'.blocks[k+1]? with
     |none=>exact⟨Fd,Fd⟩
     |some x=>exact EB x (Qi h4)
    refine⟨n,_,m2,Mx,Mx,m3,?_,rfl⟩;rw[hrd2 n m1,m4];refine decS_encS _ (hG.OA hsm fu.2) fu.1 λe he=> ?_;have hem:e∈c.all:=QT.2 ⟨_,hsm,he⟩;have hg:=hG.ent e hem;have h1:=hg.u;have h2:=hg.b1;have h3:=hw.ent c oS e hem;exact⟨⟨h1.1,by have:=h1.2;omega⟩,h3,Mx⟩
   .obtain⟨m1,m2⟩:=hN.same k _ _ h0 hb hs;obtain⟨⟨g,hg,hz⟩,fu⟩:=hkb c oS k _ _ hb hs h0;obtain⟨j2,z1,z2⟩:=zip_mem_get _ _ _ _ hz;have hgA:=(h.ok.mem (c:=g) (QB _ (QD _ hg))).1;obtain⟨b,sh,y1,y2,y3,y4,y5,y6⟩:=hgA.pg j2 (Ql.1 z1).1;rw[z1] at y1;rw[z2] at y4;have y1:=Qr y1;have y4:=Qr y4;refine⟨b,_,by rw[m1,y1],y2,by rw[hlen4];exact y3,m2,?_,?_⟩
    .have:=hrd _ (hRC c.blocks[k] (QT.2 ⟨c,oS,QI hk⟩) h0);rw[y1,Xt] at this;rw[this,y5,y4]
    .rw[fu,Qe,Qe]
     cases h5:c.blocks[k+1]? with
     |none=>
      have:c'.blocks[k+1]? =none:=QQ (by rw[hN.lb];exact List.getElem?_eq_none_iff.1 h5);rw[this]
     |some b2=>
      have sq:b2≠0:=λe=>ZF.next (hw.zf c oS) hb h0 (by rw[h5,e]);have si:=(Ql.1 h5).1;obtain⟨m3,-⟩:=hN.same (k+1) b2 _ sq h5 (Qf (by rw[<-hG.ok.len];exact si));rw[m3]
  .have:(c'.blocks).Sublist (dD ks):=(by obtain⟨a,b,SQ⟩:=List.append_of_mem hcm';rw[SQ,stayV_append,stayV_cons];exact(List.sublist_append_left _ _).trans (Qin _ _));exact this.nodup hndS
 have bm:∀c∈ks,ur c/\JA s4 c/\∀e∈c.all,0<=e.block:=λc hc=>by
  rw[hcs'] at hc;obtain h1|h1:=Qz.1 hc
  .rcases Qz.1 h1 with h1|h1
   .exact hold c (QB _ h1)
   .obtain⟨j,hj⟩:=Qab h1;have wI:=(Ql.1 hj).1;rw[hlN] at wI;have hj0:C[j]? =some C[j]:=Qf wI;obtain⟨c',g1,g2⟩:=f2 j _ hj0;rw[hj] at g1;have g1:=Qr g1;subst g1;obtain⟨k1,k2⟩:=zj j _ _ hj0 hj g2;refine⟨k1,k2,?_⟩;rw[(all_of_es (g2.es (hlC _ (QI wI)))).1];exact hw.ent _ (QI wI)
  .exact hold c (QD _ h1)
 have hfa:∀m,firstAt (A++C++B) m≠0->firstAt ks m=firstAt (A++C++B) m:=λm hm=>by
  unfold firstAt at hm|-;rw[hcs'];rw[atN_append,atN_append] at hm|-;rw[atN_append,atN_append]
  cases hA:Bf A m with
  |some c=>simp only[Option.some_or]
  |none=>
   rw[hA] at hm;simp only[Option.none_or] at hm|-;have h1:=hatI m;have h2:=atI_fst C 0 m;have h3:=atI_fst C' 0 m
   cases hI:atI 0 C m with
   |none=>
    rw[hI] at h1 h2;have h1:atI 0 C' m=none:=h1;rw[h1] at h3;rw[<-h2,<-h3]
   |some jc=>
    obtain⟨j,c⟩:=jc;rw[hI] at h1 h2;obtain⟨c',g1,g2,-,-,-⟩:=h1;rw[g1] at h3;have h2:some c=Bf C m:=h2;have h3:some c' =Bf C' m:=h3;rw[<-h2] at hm;rw[<-h2,<-h3];simp only[Option.some_or] at hm|-;obtain⟨k,k1,k2,-⟩:=atI_get C 0 m j c hI;rw[QR] at k1;rw[<-k1] at k2;rw[Nat.sub_zero] at g2;obtain⟨c2,g3,g4⟩:=f2 j c k2;rw[g2] at g3;have g3:=Qr g3;rw[<-g3] at g4;have oS:=Qi k2;have bT:=(hw.ch c oS).ok.ne
    cases hb:c.blocks with
    |nil=>
     have:=hlC c oS;rw[hb] at this;exact absurd (List.length_eq_zero_iff.1 this.symm) bT
    |cons b bs=>
     rw[hb] at hm;have hs:∃sh,c.ah[0]? =some sh:=by
      cases hsv:c.ah with
      |nil=>exact absurd hsv bT
      |cons sh r=>exact⟨sh,rfl⟩
     obtain⟨sh,hs⟩:=hs;obtain⟨m1,-⟩:=g4.same 0 b sh hm (by rw[hb];rfl) hs;rw[Qe,m1];rfl
 have hpart:∀i,(bG bP i).contains 0=false->bG slots' i=bG bP i:=λi hz=>by rw[hslots] at hz|-;rw[hslots'];exact part_same _ _ _ _ (λn _ h0=>hfa _ h0) hz
 have rn:eQ d (segsOf d ks):=seg_of tT d8 dle (λc hc h0=>by
   have h1:=(bm c hc).1.ok;have h2:=h1.len;rw[h0] at h2;exact h1.ne (List.length_eq_zero_iff.1 h2.symm)) hndS λx hx=>by
  have:=hrg x (QD _ hx);omega
 have agV:at'.length=ag.length:=by rw[hat'];exact z.len
 have hroots:∀i,i<5->s4.root (3+i)=if i<ag.length then at'.getD i 0 else 0:=λi hi=>by
  rw[o4,hat'];by_cases hil:i<ag.length
  .rw[Xd Mx,z.root,Xo Mx,Xo hil,show 3+i - 3 - 0=i by omega]
  .rw[Xo Mx,Xd hil]
 have hslr:∀x∈slots',0<=x/\x<65536:=λx hx=>by rw[<-hexp] at hx;unfold expand at hx;obtain⟨sg,Ay,hx⟩:=QT.1 hx;rw[QJ hx];have:=rn.Ej sg Ay;omega
 have hdir:BW s4 d (segsOf d ks) at' :=by
  refine⟨rn,by rw[agV,dh,pgN_eq],λi hi=> ?_,λi h1 h2=> ?_,?_⟩
  .rw[agV] at hi;rw[hroots i Mx,Xo hi];refine⟨rfl,?_⟩;have hp:ag[i]? =some ag[i]:=Qf hi;rw[hexp];by_cases h0:ag[i]=0
   .obtain⟨n,m1,m2,m3⟩:=z.zero i (by rw[hp,h0]);rw[<-hat'] at m2;have hn:=hrg n (QB _ (Qi m2));refine⟨n,by rw[Qe,m2];rfl,Mx,Mx,?_⟩;rw[e4.rd n QV,m3,QR];exact decI_encI 4 (.inl rfl) _ (yk _ _) λx hx=>hslr x (Q6 (Za hx))
   .have m1:=z.same i _ h0 hp;rw[<-hat'] at m1;have hg:ag.getD i 0=ag[i]:=(by rw[Qe,hp];rfl);have Tw:=pages_at (at_:=at_) (wG:=expand ae) (bP:=bP) (j:=i) zcO;rw[<-tz,hg] at Tw;have hil:=(Ql.1 Tw.1).1;obtain⟨-,k,g1,g2,g3,g4⟩:=h.ok.dir.rt i hil;have g0:at_.getD i 0=ag[i]:=(by rw[Qe,Tw.1];rfl);rw[g0] at g1;refine⟨k,by rw[Qe,m1];exact g1,g2,by rw[hlen4];exact g3,?_⟩;have:=hrd _ (hRP _ (QI hi) h0);rw[g1,Xt] at this;rw[this,g4,hpart i Tw.2.1,Tw.2.2]
  .rw[agV] at h1;rw[hroots i h2,Xd Mx]
  .refine⟨(2^(d - cdeep.depth),cdeep.blocks.getD 0 0),QU.2 ⟨cdeep,cdm,rfl⟩,?_⟩;show 2^(d - cdeep.depth)=1;rw[cde,XE]
 have cC:(dD ks).length<=4096:=by
  have h1:((dD ks).map Int.toNat).Nodup:=by have:=zm.nd;rw[QL] at this;exact(List.nodup_append.1 this).2.1
  have h2:=Qbz (l₂:=range 4096) h1 λx hx=>by obtain⟨y,hy,rfl⟩:=QU.1 hx;have:=hrg y (QD _ hy);exact Zm.2 Mx
  simpa using h2
 have ec:MU s4 d (segsOf d ks) at' ks :=by refine⟨hdir,by unfold segsOf;simp,λj sg c hj hc=> ?_,hndS,cC⟩;have oS:=Qi hc;obtain⟨k1,k2,-⟩:=bm c oS;have zh:=tile_start d8 ks 0 256 tT dle j c hc;rw[QR] at zh;unfold segsOf at hj;rw[Qt,hc] at hj;have hj:(2^(d - c.depth),c.blocks.getD 0 0)=sg:=Qr hj;have hcd:=dle c oS;refine⟨k2,k1.dz,by rw[<-hj],zh,d - c.depth,Mx,by rw[<-hj],Mx⟩
 refine⟨at',C',?_⟩;have hinv:HInv s4 d (segsOf d ks) at' ks :=⟨zm,ec,λc hc=>(bm c hc).1,λc hc=>(bm c hc).2.2⟩;rw[hcs'] at hinv;have hTp:∀x:Nat,x∈[]++(n2++(n1++gone.map Int.toNat))->(x:Int)∉s.ag++s.au:=λx hx=>by
  rw[QZ] at hx;rw[Qz];obtain hx|hx:=Qz.1 hx
  .obtain⟨-,-,-,q1,q2,-⟩:=z.inv.own x (QB _ hx);rw[z.eff.ag,e2.ag,e1.ag] at q1;rw[z.eff.au,e2.au,e1.au] at q2;exact λh=>h.elim q1 q2
  obtain hx|hx:=Qz.1 hx
  .obtain⟨-,-,-,q1,q2,-⟩:=i2.own x (QB _ hx);rw[e2.ag,e1.ag] at q1;rw[e2.au,e1.au] at q2;exact λh=>h.elim q1 q2
  .obtain⟨-,-,-,q1,q2,-⟩:=i0.own x (QB _ hx);exact λh=>h.elim q1 q2
 refine⟨hinv,hlN,λj c hj=> ?_,?_,⟨_,hE,hTp⟩,?_,?_,?_,λj hj=> ?_⟩
 .obtain⟨c',g1,g2⟩:=f2 j c hj;exact⟨c',g1,g2.ax,g2.dep,g2.es (hlC c (Qi hj)),g2.lb,g2.same⟩
 .rw[r4,z.room,r2];omega
 .rw[u4.1,z.sup.1,u2,u1]
 .rw[u4.2.1,z.sup.2.1,u2,u1]
 .rw[u4.2.2,z.sup.2.2,u2,u1]
 .rw[o4,Xd Mx,z.root,Xd Mx];unfold aX.root;rw[u2,u1]
end
section
open Go.Maps (Keyed)
variable {w' : Wo}{b' base mb s : Nat}{v : Va}{K V : Type}{M : MK K V}{f : K -> Option V}
def kb(l:Fr):Int->Option Int:=λe=>if e∈l then some 1 else none
def Le(l:Fr)(e:Int):eM (kb l) e 1=kb (l++[e]):=by funext z;unfold eM kb;by_cases h:z=e<;>simp[h]
def Lf:kb []=λ_=>none:=by funext z;simp[kb]
structure zgk where
 c:ak
 bv:Va
 sv:Va
 ps:List (ay×Va)
def wX(m:zgk):List Va:=[.int .i64 m.c.ax,.int .i64 m.c.depth,m.bv,m.sv]
structure rl(w:Wo)(base:Nat)(m:zgk):Prop where
 b:aB w base 3 .i64 m.bv m.c.blocks
 s:gj w base m.sv m.ps
 p:m.ps.map Prod.fst=m.c.ah
def rl.on{w:Wo}{m:zgk}(h:rl w base m)(hb:ci w w'):rl w' base m:=⟨aB.on h.b hb,h.s.on hb,h.p⟩
def rl.low{w:Wo}{b:Nat}{m:zgk}(h:rl w b m)(hb:b'<=b):rl w b' m:=⟨h.b.low hb,h.s.low hb,h.p⟩
def rl.row{w:Wo}{m:zgk}{e' s' n' :Nat}{v' :Va}{VY :Ox}(h:rl w base m)(k:w.ownsRow b' e' s' v' n' VY)(h0:3≠e')(h1:79≠e')(h2:29≠e')(hg:w.grownBy w' v'.ownBlock):rl w' base m:=
 ⟨Qac h.b hg (iT h.b k h0),h.s.kept k h1 h2 hg,h.p⟩
def tQ{w:Wo}{n sz:Nat}{e:Fy}{xs:Ox}[DecidableEq K](h:w.ownsRow base e sz v n xs)(hm:MG M w mb f s)(hg:w.grownBy w' (some mb)):w'.ownsRow base e sz v n xs:=
 Qac h hg (.inr (kj hm h))
def rl.map{w:Wo}{m:zgk}[DecidableEq K](h:rl w base m)(hm:MG M w mb f s)(hg:w.grownBy w' (some mb)):rl w' base m:=
 ⟨tQ h.b hm hg,⟨tQ h.s.row hm hg,λp hp=>⟨tQ (h.s.es p hp).1 hm hg,(h.s.es p hp).2⟩⟩,h.p⟩
def rl.chn{w:Wo}{m:zgk}(h:rl w base m):Uq w w (.agg #[ac m.c.ax,ac m.c.depth,m.bv,m.sv]) m.c:=⟨_,_,_,rfl,h.b.ns,h.s.Wa,h.p⟩
structure jA(w:Wo)(base:Nat)(v:Va)(ms:List zgk):Prop where
 row:w.ownsRow base 72 4 v ms.length (ms.flatMap wX)
 all:∀m∈ms,rl w base m
def Rl(w:Wo)(base:Nat):jA w base () []:=⟨Qbn _ _ _ _,λp hp=>zdh⟩
def jA.on{w:Wo}{ms:List zgk}(h:jA w base v ms)(hb:ci w w'):jA w' base v ms:=⟨aS h.row hb,λm hm=>(h.all m hm).on hb⟩
def jA.map{w:Wo}{ms:List zgk}[DecidableEq K](h:jA w base v ms)(hm:MG M w mb f s)(hg:w.grownBy w' (some mb)):jA w' base v ms:=⟨tQ h.row hm hg,λm xA=>(h.all m xA).map hm hg⟩
def jA.form{w:Wo}{ms:List zgk}(h:jA w base v ms):∃A n c,v= am A n c:=zfr
def Yu:(prog.info? 72).map (λi=>(i.zero,i.size,i.bytes))=some (some (.agg #[ac 0,ac 0,(),()]),4,64):=KJ
def Sh{w:Wo}{m:zgk}(h:rl w base m):∀u∈wX m,u.oneCell' =true:=by
 obtain⟨A,n,c,hv⟩:=aB.bu h.b;obtain⟨A2,n2,c2,AO⟩:=h.s.form;intro u hu;simp[wX] at hu;obtain rfl|rfl|rfl|rfl:=hu
 .rfl
 .rfl
 .rw[hv];rfl
 .rw[AO];rfl
def PX(w:Wo)(base:Nat)(v:Va)(ms:List zgk)(h:jA w base v ms)(g:Nat)(m:zgk)(hx:aq w g 72 (wX m))(hp:rl w base m)(hl:ms.length<=10000)(hb:base<=w)(ty:Fy):
  ∃v' w',(Builtin.append_ #[35,35] ty #[v,el g 0 1 1]).run prog w= .ok v' w'/\jA w' base v' (ms++[m])/\w.grownBy w' v.ownBlock/\(v'.ownBlock=v.ownBlock\/v'.ownBlock=some w):=by
 obtain⟨v',w',h1,h2,h3,h4⟩:=cy (P:=prog) w base 35 ty 72 _ 4 64 underlying35 Yu rfl Fd v ms.length _ h.row (B:=w.heap.size) (el g 0 1 1) 1 (wX m)
  (hx.sl (o:=0) (n:=1) (sz:=4) (c:=1) (by simp[wX]) go AN) (Sh hp) Do Mx hb
 refine⟨v',w',h1,⟨?_,λq hq=> ?_⟩,h3,h4⟩
 .rw[Qo,QP];simpa using h2
 .rcases Qz.1 hq with hq|hq
  .exact(h.all q hq).row h.row Fd Fd Fd h3
  .rw[Qx] at hq;subst hq;exact hp.row h.row Fd Fd Fd h3
section
variable {P : Program}{ops : Array Oper}{w : Wo}{Q : Exit -> Act -> Wo -> Prop}{a : Act}{rest : List Oper}{dst : Option Tmp}{os ox : Operand}{ty t : TypeId}{pos : String}{after : Array Edge}
def wl_append_run{vx:Va}{R:Va->Wo->Prop}(h:∃v' w',(Builtin.append_ #[t,t] ty #[v,vx]).run P w= .ok v' w'/\R v' w')(hs:a.eval os=v)(hx:a.eval ox=vx)
  (hK:∀v' w',R v' w'->wpList P ops Q rest (a.put dst v') w'):
  wpList P ops Q (⟨dst,.call {callee:= .builtin .append,args:= #[os,ox],argTypes:= #[t,t]},ty,pos,after,none⟩::rest) a w:=by
 refine Qbi rfl λK' hK' => ?_;obtain⟨v',w',iq,hR⟩:=h;unfold Oper.wp;simp[execOp,resolve,invoke,builtin,hs,hx,iq,Result.andThen];exact hK' _ _ (hK v' w' hR)
end
end
section
variable{w:Wo}{v:Va}{ps:List (ay × Va)}{B:Nat}
def kP(w:Wo)(base:Nat)(v:Va)(ps:List (ay×Va)):Prop:=w.ownsRow base 79 3 v ps.length (ps.flatMap fV)
def kP.form{base:Nat}(h:kP w base v ps):∃A n c,v= am A n c:=zek
def Ck(w:Wo)(base:Nat):kP w base () []:=Qbn _ _ _ _
def ab9:∃i,prog.info? 79=some i/\i.zero=some (.agg #[io 0,gc 0,()])/\i.size=3/\i.bytes=32:=by obtain⟨i0,hi,oI,mM,xw⟩:=Qdq OH;exact⟨i0,hi,oI,mM,xw⟩
def LF(w:Wo)(n:Nat)(hn:n<=1000000):
  Calls prog 201 #[(),ac n] w λe w' =>∃v',e= .returned v'/\kP w' w v' []/\ci w w' :=by
 by_cases h0:n=0
 .subst h0;go_in;go_wp2;go_ret;exact⟨_,rfl,Ck _ _,pi⟩
 .have Bu:Af (∀ty,(Builtin.append_ #[70,3] ty #[(),ac n]).run prog w= .ok (el w 0 n (grownCap w n 0 79)) (qr w.drew (Builtin.zeroCells #[io 0,gc 0,()] n++Builtin.zeroCells #[io 0,gc 0,()] (grownCap w n 0 79 - n)) 79)):=by intro ty;obtain⟨i,hi,hz,hs,hb⟩:=ab9;exact Lib.run_append_nil_zeros w 70 3 ty 79 i _ .i64 .i64 underlying70 underlying3 hi hz n Mx Mx Mx zbU
  have pj:n<=grownCap w n 0 79:=grownCap_ge _ _ _ _;have hle:=aa (Qhm w n 0 79 Do);generalize AB:grownCap w n 0 79=cc at*;clear AB;have nZ:IntKind.i64.wrap (n:Int)=(n:Int):=zbS;exact zec
def SsL(w:Wo)(v:Va)(ls:List (Va×List (ay×Va))):Prop:=Sl w w 1 v ls.length (ls.map Prod.fst)/\∀p∈ls,mP w w p.1 p.2
def jx(ls:List (Va×List (ay×Va))):Nat:=(ls.flatMap Prod.snd).length
def yt(ls:List (Va×List (ay×Va)))(k:Nat)(p:Va×List (ay×Va))(h:ls[k]? =some p):jx (ls.take (k+1))=jx (ls.take k)+p.2.length:=by unfold jx;rw[aA ls k p h,QP,Qo];simp
def Jj(ls:List (Va×List (ay×Va)))(k:Nat):jx (ls.take k)<=jx ls:=by
 unfold jx
 conv=>rhs;rw[<-XW k ls,QP,Qo]
 exact XM _ _
def Dj(h:mP w B v ps):∀u∈ps.flatMap fV,u.oneCell' =true:=by
 intro u hu;obtain⟨p,hp,hu⟩:=QT.1 hu;obtain⟨A,c,hv,-,-⟩:=(h.es p hp).1.1.form;simp[fV] at hu;obtain rfl|rfl|rfl:=hu
 .rfl
 .rfl
 .rw[hv];rfl
def mP.form(h:mP w B v ps):∃A c,v= am A ps.length c:=by obtain⟨A,c,hv,-,-⟩:=h.sl.form;exact⟨A,c,hv⟩
def KG(w:Wo)(base:Nat)(v:Va)(ps:List (ay×Va))(h:kP w base v ps)(vx:Va)(qs:List (ay×Va))(hx:mP w B vx qs)(hl:ps.length+qs.length<=1000000)(hb:base<=w)(ty:Fy):
  ∃v' w',(Builtin.append_ #[70,70] ty #[v,vx]).run prog w= .ok v' w'/\kP w' base v' (ps++qs)/\w.grownBy w' v.ownBlock:=by
 obtain⟨v',w',h1,h2,h3,-⟩:=cy (P:=prog) w base 70 ty 79 _ 3 32 underlying70 OH rfl Fd v ps.length _ h vx qs.length _ hx.sl (Dj hx) Do Mx hb;refine⟨v',w',h1,?_,h3⟩;rw[kP,Qo,QP];exact h2
def DP(w:Wo)(v:Va)(ls:List (Va×List (ay×Va)))(h:SsL w v ls)(hl:ls.length<=10000)(ht:jx ls<=100000):
  Calls prog 157 #[v] w λe w' =>∃v',e= .returned v'/\kP w' w v' (ls.flatMap Prod.snd)/\ci w w' :=by
 obtain⟨A,c,rfl,jb,pk⟩:=Sl.form h.1;have⟨n,hn⟩:=eX ls.length;have H:=aa h;have Hn:=iJ hn (by omega:n<=10000) ht;rw[<-hn];clear h hl hn jb pk ht;go_in;go_wp2;go_loop [11,3] (λi s=>∃k:Nat,k<=n/\i= ac k/\s= ac (jx (ls.take k))) (λi _=>n - (intOf i).toNat)
 .exact⟨0,lm,rfl,rfl⟩
 .obtain⟨k,hk,rfl,rfl⟩:=hrel;by_cases aJ:k<n
  .have bQ:k<ls.length:=(by have:=Hn.o;omega);obtain⟨b,o,c',hv,-,-,dL⟩:=H.p1.row Mx;cases hv;have⟨p,hp⟩:=eXa (ls[k]);have qZ:ls[k]? =some p:=hp▸(Qf bQ);obtain⟨Ap,cp,pY⟩:=(H.q1 p (Qi qZ)).form;obtain⟨pv,pl⟩:=p;have wT:pv= am Ap pl.length cp:=pY;subst wT;have y0:jp w b (o+k) (am Ap pl.length cp):=dL.2 k _ zcn;have uz:jx (ls.take (k+1))=jx (ls.take k)+pl.length:=yt ls k _ qZ;have hle:=Jj ls (k+1);have abz:=aa uz;have mW:=Hn.q2;have fp:wrap64 ((k:Int)+1)=(k:Int)+1:=At;have DZ:wrap64 ((jx (ls.take k):Int)+pl.length)=(jx (ls.take (k+1)):Int):=vW;have aa1:¬((jx (ls.take (k+1)):Nat):Int)<0:=Mx;have eu:=aa fp;have hi:(k:Int)<n:=Mx;have ml:(0:Int)<=k:=Mx;have H1:Af (∃s1,s1=jx (ls.take (k+1))):=⟨_,rfl⟩;obtain⟨s1,Ip⟩:=H1.o;rw[<-Ip] at DZ aa1;generalize jx (ls.take k)=s0 at*;clear hp qZ pY dL uz hle bQ hk mW abz H1;change Af _ at aJ Ip;go_wp2;go_round
   .exact⟨k+1,aJ.o,xh,by rw[<-Ip.o,DZ]⟩
   .exact zdX
  .have cH:k=n:=(by omega);subst cH;have e1:ls.take k=ls:=Qj wl;rw[e1];have HG:=aa (LF w (jx ls) wl);have Ht:=aa Hn.q2;have⟨tot,mW⟩:=eX (jx ls);rw[<-mW] at HG Ht|-;have aby:=aa mW.symm;clear mW;have hi:¬(k:Int)<k:=Mx;clear e1 aJ hk;go_wp2_with(go_at_call 201;refine tx HG.o λv2 W2 o2 b2=> ?_;have O2:=aa o2;have B2:=aa b2;clear o2 b2);clear HG;have HtL:Af (∀j,jx (ls.take j)<=tot):=λj=>Qh (Jj ls j) (Xg (aby.o));go_loopw [27,6] (λi v wr=>∃j:Nat,i= ac j/\Af (j<=k/\kP wr w v ((ls.take j).flatMap Prod.snd)/\ci w wr)) (λi _ _=>k - (intOf i).toNat)
   .exact⟨0,rfl,lm,O2.o,B2.o⟩
   .obtain⟨j,rfl,HR⟩:=hrel;obtain⟨A0,n0,c0,Ew⟩:=HR.p2.form;subst Ew;by_cases aJ:j<k
    .have bQ:j<ls.length:=(by have:=Hn.o;omega);obtain⟨b,o,c',hv,-,-,dL⟩:=H.p1.row Mx;cases hv;have⟨p,hp⟩:=eXa (ls[j]);have qZ:ls[j]? =some p:=hp▸(Qf bQ);have Iq:=H.q1 p (Qi qZ);obtain⟨Ap,cp,pY⟩:=Iq.form;obtain⟨pv,pl⟩:=p;have wT:pv= am Ap pl.length cp:=pY;subst wT;have y0:jp wr b (o+j) (am Ap pl.length cp):=(HR.q2.cell (p:=an b (o+j)) dL.1).trans (dL.2 j _ zcn);have fp:wrap64 ((j:Int)+1)=(j:Int)+1:=At;have hlen:((ls.take j).flatMap Prod.snd).length+pl.length<=1000000:=(by have h1:jx (ls.take (j+1))=jx (ls.take j)+pl.length:=yt ls j _ qZ;have h2:=HtL.o (j+1);have h3:=Ht.o;show jx (ls.take j)+_<=_;omega);have Ir:(ls.take (j+1)).flatMap Prod.snd=(ls.take j).flatMap Prod.snd++pl:=(by rw[aA ls j _ qZ,QP];simp);obtain⟨tJ,IB,rk,eu⟩:=rx HR.p2 (mP.below Iq HR.q2) HR.q2 fp;have Ni:(j:Int)<k:=Mx;have ml:(0:Int)<=j:=Mx;clear hp qZ Iq pY dL bQ HR;change Af _ at aJ hlen Ir;have Up:=aa (KG wr w _ _ tJ.o _ _ IB.o hlen.o rk.o.size 70);go_wp2_with(at_builtin;(with_reducible refine wl_append_run (os:= .tmp 31) (ox:= .tmp 32) Up.o ?_ ?_ ?_);(·rfl);(·rfl);intro v' w' pt;have JW:=aa pt.1;have px:=aa (rk.o.grown pt.2 rk.o.size (λj e=>(Xr tJ.o j e).1));clear pt Ni ml);go_roundw
     .refine⟨j+1,xh,aJ.o,?_,px.o⟩;rw[Ir.o];exact JW.o
     .exact zdX
    .have hjk:j=k:=(by have:=HR.p1;omega);have Ni:¬(j:Int)<k:=Mx;have e1:ls.take j=ls:=Qj wl;have fF:=aa HR.q1;rw[e1] at fF;clear e1 HR hjk aJ hi;go_wp2_with fail;exact zev
end
end Go.Proofs.YtjjomjobllcleaaGreat

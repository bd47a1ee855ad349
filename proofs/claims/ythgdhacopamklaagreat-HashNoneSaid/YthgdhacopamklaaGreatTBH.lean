/- What HashNone asks, part 34 of 41: parts of the walks and laws, each true as it stands. -/
import Derived.Test.YthgdhacopamklaaGreatTBG
set_option maxHeartbeats 16000000
set_option maxRecDepth 100000
set_option linter.unusedVariables false
set_option linter.unusedSimpArgs false
namespace Go.Proofs.YthgdhacopamklaaGreat
open Go.Proofs.Tryz
section
open Go.RowKit
attribute [local go_sem] Oper.semAt_some
variable {W' : Wo} {i : Nat} {b : Int}
theorem Ah (s:aX) (b:Nat) (u:Bool):(s.count b u).2.broken=s.broken:=by
 unfold aX.count;split
 ·rfl
 ·split
  ·rfl
  ·split<;>rfl
theorem kD:∀(l:List Int) (s:aX),(dN s l).broken=s.broken
 |[],_=>rfl
 |x::r,s=>by
  show(dN (s.count x.toNat false).2 r).broken=_;rw[kD r,Ah]
theorem pL (s:aX) (d:List Int):(s.put d).2.2.broken=s.broken:=by
 unfold aX.put;split
 ·rfl
 ·split
  ·rfl
  ·split<;>rfl
theorem jT (s:aX) (i:Nat) (b:Int):(s.cM i b).2.broken=s.broken:=by
 unfold aX.cM;split
 ·rfl
 ·split<;>rfl
theorem xa (dep:Nat) (p:Int×ay) (st:Int×aX):(nn dep p st).2.broken=st.2.broken:=by
 unfold nn;split
 ·exact pL _ _
 ·rfl
theorem Dq (s:aX) (c:ak):(qh s c).2.broken=s.broken:=by
 unfold qh;induction c.blocks.zip c.ah with
 |nil=>rfl
 |cons p r ih=>
  rw[List.foldr_cons,xa];exact ih
theorem nY:∀(l:List ak) (i:Nat) (st:aX×List aM),(foldI bB i l st).1.broken=st.1.broken
 |[],_,_=>rfl
 |c::r,i,st=>by
  show(foldI bB (i+1) r (bB st i c)).1.broken=_;rw[nY r];exact Dq _ _
theorem wi (bP ag:List Int) (s:aX) (i:Nat):(dE bP ag s i).broken=s.broken:=by
 unfold dE;split
 ·split
  ·dsimp only;rw[jT,pL]
  ·exact jT _ _ _
 ·exact jT _ _ _
theorem pe (bP ag:List Int):∀(l:List Nat) (s:aX),(l.foldl (dE bP ag) s).broken=s.broken
 |[],_=>rfl
 |i::r,s=>by rw[List.foldl_cons,pe bP ag r,wi]
structure mL (I:bF) (pb:Nat) (cells:List aM) (dep:Nat) (sv pv gv:Va) (w:Wo) (st:aX) (W:Wo):Prop where
 base:cS (fun x=>x=pb) W I st
 own:aq W pb 152 (di cells dep sv pv gv)
 aL:aG (fun x=>BS I x∨x=pb) w W
section
variable {I : bF} {pb : Nat} {cells : List aM} {dep : Nat} {sv pv gv : Va} {w : Wo} {st : aX} {W : Wo}
theorem mL.on (h:mL I pb cells dep sv pv gv w st W) (hb:Below W.heap.size W W'):mL I pb cells dep sv pv gv w st W' :=⟨h.base.on hb,h.own.on hb,h.aL.trans (aG.aZ hb)⟩
theorem mL.step {st' :aX} (h:mL I pb cells dep sv pv gv w st W) (hB:cS (fun x=>x=pb) W' I st') (hc:aG (BS I) W W'):mL I pb cells dep sv pv gv w st' W' :=
 ⟨hB,h.own.aL hc (h.base.no pb rfl),h.aL.trans (hc.mono fun _ _ e=> .inl e)⟩
theorem mL.set {uS :List aM} {Of :Nat} {tZ pv' TQ :Va} (h:mL I pb cells dep sv pv gv w st W) (j:Nat) (u:Va) (he:(di cells dep sv pv gv).set j u=di uS Of tZ pv' TQ):mL I pb uS Of tZ pv' TQ w st (W.setCell ⟨pb,j,none⟩ u):=by
 refine⟨h.base.set (p:=⟨pb,j,none⟩) rfl u,?_,h.aL.setCell (p:=⟨pb,j,none⟩) (fun _=> .inr rfl) u⟩;have o:=h.own.set j u;rw[he] at o;exact o
end
theorem DL {l:List Int} {k:Nat} {x:Int} (h:l[k]? =some x) (s:aX):dN s (l.take (k+1))=((dN s (l.take k)).count x.toNat false).2:=by
 unfold dN;rw[aA l k x h,List.foldl_append];rfl
def fS (cells:List aM) (i:Nat) (b:Int) (n:Nat):List aM:=cells.mapIdx fun m x=>if m<n∧x.ao=i+1 then{x with block:=b} else x
theorem Gh (cells:List aM) (i:Nat) (b:Int):fS cells i b 0=cells:=by
 refine List.ext_getElem? fun m=> ?_
 unfold fS;rw[Zp];cases cells[m]? <;>simp
theorem Lm {cells:List aM} (h:cells.length=256) (i:Nat) (b:Int):fS cells i b 256=sA cells i b:=by
 refine List.ext_getElem? fun m=> ?_
 unfold fS sA;rw[Zp,Qt];by_cases hm:m<256
 ·cases cells[m]? <;>simp[hm]
 ·rw[QQ (by omega)];rfl
theorem Ll (cells:List aM) (i:Nat) (b:Int) (n:Nat):(fS cells i b n).length=cells.length:=by simp[fS]
theorem Gi {cells:List aM} {n:Nat} {x:aM} (hx:cells[n]? =some x):(fS cells i b n)[n]? =some x∧fS cells i b (n+1)=if x.ao=i+1 then(fS cells i b n).set n {x with block:=b} else fS cells i b n:=by
 have hn:=(Ql.1 hx).1;constructor
 ·unfold fS;rw[Zp,hx];simp
 ·refine List.ext_getElem? fun m=> ?_
  by_cases hm:m=n
  ·subst hm;by_cases hi:x.ao=i+1
   ·rw[Xo hi,List.getElem?_set_self (by rw[Ll];exact hn)];unfold fS;rw[Zp,hx];simp[hi]
   ·rw[Xd hi];unfold fS;rw[Zp,Zp,hx];simp[hi]
  ·have h1:(if x.ao=i+1 then(fS cells i b n).set n {x with block:=b} else fS cells i b n)[m]? =(fS cells i b n)[m]? :=by
    split
    ·rw[List.getElem?_set_ne (Xm hm)]
    ·rfl
   rw[h1];unfold fS;rw[Zp,Zp];have h2:(m<n+1)↔(m<n):=by omega
   simp only[h2]
def ig (bP ag:List Int) (s:aX) (i:Nat):Int:=if i<ag.length then(if ag.getD i 0=0 then(s.put (encI 4 (bG bP i))).1 else ag.getD i 0) else 0
def jm (bP ag:List Int) (s:aX) (i:Nat):aX:=if i<ag.length then(if ag.getD i 0=0 then(s.put (encI 4 (bG bP i))).2.2 else s) else s
theorem FM (bP ag:List Int) (s:aX) (i:Nat):dE bP ag s i=((jm bP ag s i).cM (3+i) (ig bP ag s i)).2:=by
 unfold dE jm ig;split
 ·split<;>rfl
 ·rfl
def jJ (bP ag:List Int) (s:aX):Prop:=∀i,i<5→ig bP ag ((List.range i).foldl (dE bP ag) s) i=0∨2≤ig bP ag ((List.range i).foldl (dE bP ag) s) i∧ig bP ag ((List.range i).foldl (dE bP ag) s) i<(jm bP ag ((List.range i).foldl (dE bP ag) s) i).t.len
theorem FW (f:aX→Nat→aX) (s:aX) (k:Nat):(List.range (k+1)).foldl f s=f ((List.range k).foldl f s) k:=by rw[List.range_succ,List.foldl_append];rfl
def Yh (c:aM):Prop:=0≤c.block∧c.block<65536
theorem Rr {cells:List aM} (h:∀c∈cells,Yh c) (hb:0≤b∧b<65536):∀c∈sA cells i b,Yh c:=by
 intro c hc;unfold sA at hc;obtain⟨x,hx,rfl⟩:=QU.1 hc;split
 ·exact hb
 ·exact h x hx
theorem RT {dep:Nat} {cells:List aM} (h:∀c∈cells,Yh c):∀x∈dS dep cells,0≤x∧x<65536:=by
 intro x hx;unfold dS at hx;obtain⟨n,-,rfl⟩:=QU.1 hx;rw[Qe];cases hq:cells[n*2^(8 - dep)]? with
 |none=>exact⟨Int.le_refl 0,(by decide:(0:Int)<65536)⟩
 |some c=>exact h c (Qi hq)
theorem LY (w:Wo) (I:bF) (s:aX) (pb:Nat) (p:qD) (sv pv gv:Va) (ao:List ak) (cv:Va)
  (hB:cS (fun x=>x=pb) w I s) (e8:s.broken=false) (hp:aq w pb 152 (di p.cells p.dep sv pv gv)) (oJ:p.cells.length=256) (uf:∀c∈p.cells,Yh c) (qc:p.dep≤8)
  (pY:Ns w w.heap.size .i64 pv p.ag) (Tw:Ap (fun x=>BS I x∨x=pb) pv) (Iq:p.ag.length=kB (2^p.dep)) (ZX:Ns w w.heap.size .i64 gv p.gone) (hga:Ap (fun x=>BS I x∨x=pb) gv) (AU:p.gone.length≤100000) (AV:∀x∈p.gone,0≤x)
  (hc:mI w (fun x=>BS I x∨x=pb) cv ao) (yY:ao.length≤10000) (AW:∀c∈ao,qo c) (Wy:∀c∈ao,∀sh∈c.ah,∀n:Int,0≤n→n<4096→bC ⟨c.depth,n,sh.es⟩=true)
  (Tv:jJ (dS p.dep (foldI bB 0 ao (dN s p.gone,p.cells)).2) p.ag (foldI bB 0 ao (dN s p.gone,p.cells)).1):
  Calls prog 69 #[.pointer (some ⟨pb,0,none⟩),.pointer (some ⟨I.b,0,none⟩),cv] w fun r w' =>r= .returned (.tuple #[])∧cR w' I (BQ s p ao)∧aG (fun x=>BS I x∨x=pb) w w' :=by
 obtain⟨Ag,cg,rfl,-,-⟩:=ZX.form;obtain⟨EO,cp,rfl,-,-⟩:=pY.form;obtain⟨Ac,cc,rfl⟩:=hc.form;obtain⟨dO,dep,abN,ag,gone⟩:=p;dsimp only at*;obtain⟨G,hG⟩:=eX gone.length;obtain⟨np,ei⟩:=eX ag.length;obtain⟨C,hC⟩:=eX ao.length;have agF:Ns w w.heap.size .i64 (.slice Ag G cg) gone:=by rw[hG];exact ZX
 have wT:Ns w w.heap.size .i64 (.slice EO np cp) ag:=by rw[ei];exact pY
 rw[←hG,←ei] at hp;rw[←hG] at hga;rw[←ei] at Tw;rw[←hC];have HS0:Af (mL I pb dO dep sv (.slice EO np cp) (.slice Ag G cg) w (dN s (gone.take 0)) w):=⟨hB,hp,aG.refl _ _⟩;have HG:=Ba agF hga hG (by omega:G≤100000) AV;have Eo:=kH wT Tw ei Iq;have HC:=Ba (by rw[hC];exact hc:mI w (fun x=>BS I x∨x=pb) (.slice Ac C cc) ao) hC (by omega:C≤10000) AW Wy
 have HN:=kH e8 oJ uf qc;have tI:=aa Tv;have aaN:=hp.cell (bq oJ 3);clear hB e8 hp oJ uf qc pY Tw Iq ZX hga AU AV hc yY AW Wy Tv agF wT hG ei hC;go_enter func69,ntmps69;go_wp2_with fail;clear aaN
 go_loopw [21] (fun iv wr=>∃k:Nat,iv= .int .i64 k∧Af (k≤G∧mL I pb dO dep sv (.slice EO np cp) (.slice Ag G cg) w (dN s (gone.take k)) wr)) (fun iv _=>G - (intOf iv).toNat)
 case atStart=>exact⟨0,rfl,Qp _,HS0.o⟩
 case round=>
  obtain⟨k,rfl,HR⟩:=hrel;by_cases hk:k<G
  ·obtain⟨b,o,rr,hv,-,-,fg,AX⟩:=HG.o.1.cells (by rw[←HG.o.2.2.1];exact QO (Qp _) hk)
   obtain rfl:Ag=some ⟨b,o,none⟩:=by injection hv
   obtain⟨x,hx⟩:∃y,y=gone.getD k 0:=⟨_,rfl⟩;have Ww:gone[k]? =some x:=by rw[hx,Qe,Qf (by rw[←HG.o.2.2.1];exact hk)];rfl
   have gd:=HG.o.2.2.2.2 x (Qi Ww);obtain⟨xn,SB⟩:∃n:Nat,x=(n:Int):=⟨x.toNat,by omega⟩;have z0:wr.cell? ⟨b,o+k,none⟩=some (.int .i64 xn):=by
    rw[←SB,hx];exact(HR.o.2.aL.cell (p:=⟨b,o+k,none⟩) fg (HG.o.2.1 b o G cg (by omega) rfl)).trans (AX k (by rw[←HG.o.2.2.1];exact hk))
   have hdn:=GM _ wr I _ HR.o.2.base xn (by rw[kD];exact HN.o.1)
   have Nl:=DL Ww s;rw[SB,Xt] at Nl;rw[←Nl] at hdn;have HDn:=aa hdn;obtain⟨u1,u2,u3⟩:=bR hk HG.o.2.2.2.1 (by decide);have Hu:=aa u1;have cU:=aa HR.o;have Hk:=aa hk;clear hv fg AX hx Ww gd SB hdn Nl HR hk u1;go_wp2_with(go_at_call 154;go_must(refine HDn.o.mono ?_);rintro e W2 ⟨rfl,h2,c2⟩;have H2:=aa (cU.o.2.step h2 c2);clear h2 c2)
   exact⟨⟨k+1,by first|rfl|(rw[Hu.o];rfl),Hk.o,H2.o⟩,by first|exact al Hk.o|(rw[Hu.o];exact al Hk.o)⟩
  ·have cH:=QE HR.o.1 (QC hk)
   have cO:=HR.o.2;rw[cH,Qj (by rw[HG.o.2.2.1];exact Qg _)] at cO
   obtain⟨D0,hD0⟩:=eX (dN s gone);rw[←hD0] at cO;have HD0:=dK hD0 (by rw[hD0,kD];exact HN.o.1:D0.broken=false)
   have HS1:=iJ cO HN.o.2.1 HN.o.2.2.1;obtain rfl:=cH.symm;clear HR hk cO hD0 HS0;go_wp2_with fail
   go_loopw [31] (fun iv wr=>∃k:Nat,iv= .int .i64 k∧Af (k≤C∧mL I pb (foldI bB 0 (ao.take k) (D0,dO)).2 dep sv (.slice EO np cp) (.slice Ag G cg) w (foldI bB 0 (ao.take k) (D0,dO)).1 wr∧(foldI bB 0 (ao.take k) (D0,dO)).2.length=256∧∀c∈(foldI bB 0 (ao.take k) (D0,dO)).2,Yh c)) (fun iv _=>C - (intOf iv).toNat)
   case atStart=>exact⟨0,rfl,Qp _,HS1.o⟩
   case round=>
    obtain⟨k,rfl,HR⟩:=hrel;by_cases hk:k<C
    ·obtain⟨c,jV⟩:∃c,ao[k]? =some c:=⟨_,Qf (by rw[←HC.o.2.1];exact hk)⟩
     have OQ:=lW bB ao k c jV (D0,dO);obtain⟨st1,agb⟩:=eX ((foldI bB 0 (ao.take k) (D0,dO)).1);obtain⟨WJ,J2⟩:=eX ((foldI bB 0 (ao.take k) (D0,dO)).2);have YB:foldI bB 0 (ao.take k) (D0,dO)=(st1,WJ):=by rw[agb,J2]
     rw[YB] at HR OQ;have Eb:=HR.o.2.1;have hls:=HC.o.1.aL Eb.aL (fun _ h=>h);obtain⟨b,o,rr,A1,A2,m1,c1,m2,c2,hv,bO,y0,y1,y2,y3,kG⟩:=hls.lG jV;obtain rfl:Ac=some ⟨b,o,none⟩:=by injection hv
     have jZ:=HC.o.2.2.2.1 c (Qi jV);have Wy:=HC.o.2.2.2.2 c (Qi jV);obtain⟨tj,ky⟩:∃z,z=wr.alloc (.cells #[.int .i64 c.ax,.int .i64 c.depth,.slice A1 m1 c1,.slice A2 m2 c2] 50):=⟨_,rfl⟩;have X3:aq tj wr.heap.size 50 [.int .i64 c.ax,.int .i64 c.depth,.slice A1 m1 c1,.slice A2 m2 c2]:=by rw[ky];exact ar wr [_,_,_,_] _
     have b3:Below wr.heap.size wr tj :=by rw[ky];exact aF _ _
     obtain⟨xb,eD⟩:∃z,z=wr.heap.size:=⟨_,rfl⟩;rw[←eD] at X3;have hpt:=QG (fun x=>x=pb) tj I st1 (Eb.base.on b3) c A1 A2 m1 c1 m2 c2 ((kG.on b3).mono (fun x hx=> .inl hx)) jZ Wy;obtain⟨Er,zh⟩:∃y,y=(qh st1 c).2:=⟨_,rfl⟩;obtain⟨bn,WB⟩:∃y,y=(qh st1 c).1:=⟨_,rfl⟩;rw[←zh,←WB] at hpt;have JU:=aa hpt;obtain⟨fr,eo⟩:∃y,y=c.ax:=⟨_,rfl⟩;obtain⟨dp,eK⟩:∃y,y=c.depth:=⟨_,rfl⟩;rw[←eo] at y0 ky X3 JU;rw[←eK] at y1 ky X3 JU;have l0:=X3.cell (j:=0) rfl;obtain⟨-,l1,l2,l3⟩:=mm X3;have H3:=aa (Eb.on b3);have mT:Af (wr.alloc (.cells #[.int .i64 fr,.int .i64 dp,.slice A1 m1 c1,.slice A2 m2 c2] 50)=tj∧wr.heap.size=xb):=⟨ky.symm,eD.symm⟩;have HX:Af (k<C∧foldI bB 0 (ao.take (k+1)) (D0,dO)=(Er,sA WJ k bn)∧WJ.length=256∧(∀c∈WJ,Yh c)):=⟨hk,by rw[OQ,zh,WB];rfl,HR.o.2.2.1,HR.o.2.2.2⟩
     obtain⟨u1,u2,u3⟩:=bR hk (Qh HC.o.2.2.1 (show 10000≤100000 by decide)) (by decide);have Hu:=aa u1;have k0:(0:Int)≤k:=Xh k;clear jV OQ agb J2 YB Eb hls hv bO kG jZ Wy ky X3 b3 eD hpt zh WB eo eK HR hk u1;go_upto_region 8 with fail
     rw[mT.o.1,mT.o.2];clear y0 y1 y2 y3;go_upto_region 9 with(go_at_call 155;go_must(refine JU.o.mono ?_);rintro e W4 ⟨rfl,h4,c4,r4⟩;have H4:=aa (H3.o.step h4 c4);have R4:=aa r4;clear h4 c4 r4)
     have ID:Af (mL I pb (fS WJ k bn 0) dep sv (.slice EO np cp) (.slice Ag G cg) w Er W4):=by rw[Gh];exact H4.o
     have wk:wrap64 ((k:Int)+1)=(k:Int)+1:=Hu.o;clear l0 l1 l2 l3 H3 mT JU;go_wp2_with fail
     go_loopw [39] (fun jv wr=>∃n:Nat,jv= .int .i64 n∧Af (n≤256∧mL I pb (fS WJ k bn n) dep sv (.slice EO np cp) (.slice Ag G cg) w Er wr)) (fun jv _=>256 - (intOf jv).toNat)
     case atStart=>exact⟨0,rfl,Qp _,ID.o⟩
     case round=>
      obtain⟨n,rfl,HI⟩:=hrel;by_cases hn:n<256
      ·obtain⟨x,hx⟩:∃x,WJ[n]? =some x:=⟨_,Qf (by rw[HX.o.2.2.1];exact hn)⟩
       obtain⟨g1,g2⟩:=Gi (i:=k) (b:=bn) hx;have n0:(0:Int)≤n:=Xh n;have n1:(n:Int)<256:=by omega
       have w1:wrap64 ((n:Int)+1)=(n:Int)+1:=by unfold wrap64;omega
       have Hn:Af (n<256∧wrap64 ((n:Int)+1)=(n:Int)+1):=⟨hn,w1⟩;have z2:wr.cell? ⟨pb,n*3+2,none⟩=some (.int .i64 x.ao):=HI.o.2.own.cell (gT n x g1 2 (by decide));have z0:wr.cell? ⟨pb,n*3,none⟩=some (.int .i64 x.block):=HI.o.2.own.cell (gT n x g1 0 (by decide));have zf:=HI.o.2.own.free (n*3);have qg:=aa HI.o.2;have wM:=aa (And.intro g1 g2);by_cases hq:x.ao=k+1
       ·have MD:(x.ao:Int)=(k:Int)+1:=by omega
        rw[MD] at z2;have HQ:=aa hq;clear hx g1 g2 w1 HI hn hq MD;go_wp2_with fail;have e1:=wM.o.2;rw[Xo HQ.o] at e1;refine⟨⟨n+1,by first|rfl|(rw[Hn.o.2];rfl),Hn.o.1,?_⟩,by first|exact al Hn.o.1|(rw[Hn.o.2];exact al Hn.o.1)⟩
        rw[e1];exact qg.o.set (n*3) (.int .i64 bn) (il n x {x with block:=bn} 0 _ wM.o.1 rfl (by decide))
       ·have MD:¬(x.ao:Int)=(k:Int)+1:=by omega
        have hq3:((x.ao:Int)==(k:Int)+1)=false:=by simpa using MD
        have HQ:=aa hq;obtain⟨cm,oS⟩:∃y:Int,y=x.ao:=⟨_,rfl⟩;rw[←oS] at z2 MD hq3;clear hx g1 g2 w1 HI hn hq oS z0 zf;go_wp2_with fail;have e1:=wM.o.2;rw[Xd HQ.o] at e1;refine⟨⟨n+1,by first|rfl|(rw[Hn.o.2];rfl),Hn.o.1,?_⟩,by first|exact al Hn.o.1|(rw[Hn.o.2];exact al Hn.o.1)⟩
        rw[e1];exact qg.o
      ·have yW:=QE HI.o.1 (QC hn)
       have HE:Af (mL I pb (foldI bB 0 (ao.take (k+1)) (D0,dO)).2 dep sv (.slice EO np cp) (.slice Ag G cg) w (foldI bB 0 (ao.take (k+1)) (D0,dO)).1 wr∧(foldI bB 0 (ao.take (k+1)) (D0,dO)).2.length=256∧∀c∈(foldI bB 0 (ao.take (k+1)) (D0,dO)).2,Yh c):=by
        have h1:=HI.o.2;rw[yW,Lm HX.o.2.2.1] at h1;rw[HX.o.2.1];have hR:=R4.o;exact⟨h1,by show(sA WJ k bn).length=256;unfold sA;rw[Qq];exact HX.o.2.2.1,Rr HX.o.2.2.2 (by omega)⟩
       subst yW;clear HI hn;go_wp2_with fail;exact⟨⟨k+1,by first|rfl|(rw[Hu.o];rfl),HX.o.1,HE.o⟩,by first|exact al HX.o.1|(rw[Hu.o];exact al HX.o.1)⟩
    ·have cH:=QE HR.o.1 (QC hk)
     have cO:=HR.o.2;rw[cH,Qj (by rw[HC.o.2.1];exact Qg _)] at cO
     obtain⟨Tm,Bo⟩:=eX ((foldI bB 0 ao (D0,dO)).1);obtain⟨cl3,abd⟩:=eX ((foldI bB 0 ao (D0,dO)).2);rw[←Bo,←abd] at cO;have HF3:Af (foldI bB 0 ao (D0,dO)=(Tm,cl3)∧Tm.broken=false):=⟨by rw[Bo,abd],by rw[Bo,nY];exact HD0.o.2⟩
     have Ir:=yH wr pb cl3 dep sv (.slice EO np cp) (.slice Ag G cg) cO.1.own cO.2.1 HN.o.2.2.2 cO.2.2;have HFl:=aa Ir;have j2:=aa cO;obtain rfl:=cH.symm;clear HR hk cO Bo abd Ir HS1;go_upto_region 17 with(go_at_call 150;go_must(refine HFl.o.mono ?_);rintro e Wf ⟨sv2,rfl,x5,s5,c5⟩;obtain⟨Bk,wH,Bc,rfl⟩:=s5.bu;have X5:=aa x5;have S5:=aa s5;have C5:=aa c5;clear x5 s5 c5)
     obtain⟨SL,ML⟩:=eX (dS dep cl3);have kr:SL.length=wH∧SL.length=2^dep:=by
      obtain⟨A,c,e,-,-⟩:=S5.o.ns.form;injection e with e1 e2 e3
      exact⟨by rw[ML];exact e2.symm,by rw[ML,fe]⟩
     have pW:=Ba ML kr.1 kr.2 (by rw[kr.2];exact(rz HN.o.2.2.2).2:SL.length≤256) (by rw[ML];exact RT j2.o.2.2:(∀x∈SL,0≤x∧x<65536))
     have HSn:Af (Ns Wf Wf.heap.size .u16 (.slice Bk wH Bc) SL∧Ap (fun x=>BS I x∨x=pb) (.slice Bk wH Bc)):=⟨by rw[ML];exact S5.o.ns,jG S5.o (fun x hx=>hx.elim (fun e=>j2.o.1.base.at_.lt x e) (fun e=>by rw[e];exact j2.o.1.own.lt))⟩
     have dZ:Af (mL I pb cl3 dep (.slice Bk wH Bc) (.slice EO np cp) (.slice Ag G cg) w ((List.range 0).foldl (dE SL ag) Tm) Wf∧aG (fun x=>BS I x∨x=pb) Wf Wf):=⟨⟨j2.o.1.base.aL C5.o,X5.o,j2.o.1.aL.trans (C5.o.mono fun _ _ e=> .inr e)⟩,aG.refl _ _⟩;have hrf:jJ SL ag Tm:=by
      have h1:=tI.o;rw[←HD0.o.1,HF3.o.1] at h1;rw[ML];exact h1
     have HRf:=aa hrf;have oJ:=j2.o.2.1;have je:=aa oJ;have Iq:np≤5:=by rw[Eo.o.2.2.1,Eo.o.2.2.2];exact rT (rz HN.o.2.2.2).2
     have HPn:=aa Iq;clear ML kr hrf oJ Iq X5 S5 C5 HFl j2 tI;go_wp2_with fail
     go_loopw [63] (fun iv wr=>∃k:Nat,iv= .int .i64 k∧Af (k≤5∧mL I pb cl3 dep (.slice Bk wH Bc) (.slice EO np cp) (.slice Ag G cg) w ((List.range k).foldl (dE SL ag) Tm) wr∧aG (fun x=>BS I x∨x=pb) Wf wr)) (fun iv _=>5 - (intOf iv).toNat)
     case atStart=>exact⟨0,rfl,by decide,dZ.o⟩
     case round=>
      obtain⟨k,rfl,HR⟩:=hrel;by_cases hk:k<5
      ·obtain⟨sk,JH⟩:=eX ((List.range k).foldl (dE SL ag) Tm)
       have UB:sk.broken=false:=by rw[JH,pe];exact HF3.o.2
       have hrk:=HRf.o k hk;rw[←JH] at hrk;have OM:(List.range (k+1)).foldl (dE SL ag) Tm=((jm SL ag sk k).cM (3+k) (ig SL ag sk k)).2:=by rw[FW,←JH,FM]
       have cU:Af (mL I pb cl3 dep (.slice Bk wH Bc) (.slice EO np cp) (.slice Ag G cg) w sk wr∧aG (fun x=>BS I x∨x=pb) Wf wr):=by rw[JH];exact HR.o.2
       have af4:=cU.o.1.own.cell (bq je.o 2);have af5:=cU.o.1.own.cell (bq je.o 1);have k0:=Xh k;have k5:(k:Int)<5:=by omega
       have w1:wrap64 ((k:Int)+1)=(k:Int)+1:=by unfold wrap64;omega
       have w3:wrap64 (3+(k:Int))=3+(k:Int):=by unfold wrap64;omega
       have Hw:=aa w1;obtain⟨arg,abi⟩:=eX (ig SL ag sk k);obtain⟨Zn,UF⟩:=eX (jm SL ag sk k);rw[←abi,←UF] at hrk OM;have tB:Zn.broken=false:=by
        rw[UF];unfold jm;split
        ·split
         ·rw[pL];exact UB
         ·exact UB
        ·exact UB
       have HSr:Af (∀W:Wo,cS (fun x=>x=pb) W I Zn→Calls prog 74 #[.pointer (some ⟨I.b,0,none⟩),.int .i64 (3+(k:Int)),.int .i64 arg] W fun e w' =>e= .returned (.int .i64 0)∧cS (fun x=>x=pb) w' I ((List.range (k+1)).foldl (dE SL ag) Tm)∧aG (BS I) W w'):=fun W hW=>by
        have h1:=w9 _ W I Zn hW tB (3+k) (by omega) (by omega) arg hrk;rw[show((3+k:Nat):Int)=3+(k:Int) by omega] at h1;rw[OM];exact h1
       have HX:=iJ hk abi UF;have hlen:=Eo.o.2.2.1;clear JH UB hrk OM w1 abi UF tB HR hk;by_cases cH:k<np
       ·have kn:(k:Int)<np:=by omega
        obtain⟨pg,tz⟩:=eX (ag.getD k 0);obtain⟨bp,op,cp',hv,-,-,dh,hpc⟩:=Eo.o.1.cells (by rw[←hlen];omega)
        obtain rfl:EO =some ⟨bp,op,none⟩:=by injection hv
        have zp:wr.cell? ⟨bp,op+k,none⟩=some (.int .i64 pg):=by
         rw[tz];exact(cU.o.1.aL.cell (p:=⟨bp,op+k,none⟩) dh (Eo.o.2.1 bp op np cp (by omega) rfl)).trans (hpc k (by rw[←hlen];exact cH))
        have Tf:=dK (by rw[←hlen];exact cH:k<ag.length) tz
        clear hv dh hpc tz cH hlen;by_cases hz:pg=0
        ·subst hz
         have Ny:61*k<SL.length:=AC (by rw[oC,pW.o.2.2.1,←Eo.o.2.2.2];have:=Tf.o.1;omega)
         have Wh:=Sl.more (Sl.aL HSn.o.1 cU.o.2 (Qg _) HSn.o.2) cU.o.2.size;have HPa:=aa (rS wr (.slice Bk wH Bc) SL Wh (Qh pW.o.2.2.2.1 (by decide)) k Ny);have OK:(bG SL k).length≤61:=by unfold bG;rw[Qu];omega
         have gY:∀x∈bG SL k,0≤x∧x<65536:=fun x hx=>pW.o.2.2.2.2 x (by unfold bG at hx;exact Q6 (Za hx))
         have HEn:Af (∀v,Ns wr wr.heap.size .u16 v (bG SL k)→Calls prog 73 #[.int .u8 4,v] wr (Made wr (encI 4 (bG SL k)))):=fun v hv=>lX wr 4 (.inl rfl) v _ hv OK gY
         have Ws:Zn=(sk.put (encI 4 (bG SL k))).2.2:=by rw[HX.o.2.2];unfold jm;rw[Xo Tf.o.1,Xo Tf.o.2.symm]
         have WD:arg=(sk.put (encI 4 (bG SL k))).1:=by rw[HX.o.2.1];unfold ig;rw[Xo Tf.o.1,Xo Tf.o.2.symm]
         obtain⟨r2,ZL⟩:=eX ((sk.put (encI 4 (bG SL k))).2.1);have JP:=lY (k:=4) (l:=bG SL k) (by unfold aI;decide) OK
         have Uj:Af (∀(W8:Wo) (g:Nat),Below wr.heap.size wr W8→dn W8 g (encI 4 (bG SL k))→wr.heap.size≤g→Calls prog 72 #[.pointer (some ⟨I.b,0,none⟩),.slice (some ⟨g,0,none⟩) 128 128] W8 fun e w' =>e= .returned (.tuple #[.int .i64 arg,.int .i64 r2])∧cS (fun x=>x=pb) w' I Zn∧aG (BS I) W8 w'):=fun W8 g hW ho hg=>by
          rw[Ws,WD,ZL];exact vE _ W8 I sk (cU.o.1.base.on hW) _ _ (tT ho JP.1 JP.2) (jD fun e=>absurd (cU.o.1.base.at_.lt _ e) (XV.2 hg))
         clear Ny Wh OK gY Ws WD ZL JP;go_upto_region 25 with(first
          |(go_at_call 151;go_must(refine HPa.o.mono ?_);rintro e W6 ⟨⟨v6,rfl,q6⟩,rfl⟩;obtain⟨A6,c6,rfl,-,-⟩:=q6.form;have HE6:=aa (HEn.o _ q6);clear q6)
          |(go_at_call 73;go_must(refine HE6.o.mono ?_);rintro e W8 ⟨g8,TD,rfl,o8,b8⟩;have abC:=aa (Uj.o W8 g8 b8 o8 TD);have B8:=aa b8;clear TD o8 b8))
         go_wp2_with(first
          |(go_at_call 72;go_must(refine abC.o.mono ?_);rintro e W9 ⟨rfl,h9,c9⟩;have HS9:=aa (HSr.o W9 h9);have C9:=aa c9;clear h9 c9)
          |(go_at_call 74;go_must(refine HS9.o.mono ?_);rintro e uh ⟨rfl,MM,EE⟩;have H10:=aa MM;have Yi:=aa (((aG.aZ B8.o).trans C9.o).trans EE);clear MM EE))
         exact⟨⟨k+1,by first|rfl|(rw[Hw.o];rfl),HX.o.1,cU.o.1.step H10.o Yi.o,cU.o.2.trans (Yi.o.mono fun _ _ e=> .inl e)⟩,by first|exact al HX.o.1|(rw[Hw.o];exact al HX.o.1)⟩
        ·have Ws:Zn=sk:=by rw[HX.o.2.2];unfold jm;rw[Xo Tf.o.1,Xd (fun e=>hz (Tf.o.2.trans e))]
         have WD:arg=pg:=by rw[HX.o.2.1];unfold ig;rw[Xo Tf.o.1,Xd (fun e=>hz (Tf.o.2.trans e)),Tf.o.2]
         have hS:=HSr.o wr (by rw[Ws];exact cU.o.1.base)
         rw[WD] at hS;have HS:=aa hS;have hzb:(pg==0)=false:=by simpa using hz
         clear Ws WD hS;go_wp2_with(go_at_call 74;go_must(refine HS.o.mono ?_);rintro e uh ⟨rfl,MM,EE⟩;have H10:=aa MM;have Yi:=aa EE;clear MM EE)
         exact⟨⟨k+1,by first|rfl|(rw[Hw.o];rfl),HX.o.1,cU.o.1.step H10.o Yi.o,cU.o.2.trans (Yi.o.mono fun _ _ e=> .inl e)⟩,by first|exact al HX.o.1|(rw[Hw.o];exact al HX.o.1)⟩
       ·have kn:¬(k:Int)<np:=by omega
        have bQ:¬k<ag.length:=by rw[←hlen];exact cH
        have Ws:Zn=sk:=by rw[HX.o.2.2];unfold jm;rw[Xd bQ]
        have WD:arg=0:=by rw[HX.o.2.1];unfold ig;rw[Xd bQ]
        have hS:=HSr.o wr (by rw[Ws];exact cU.o.1.base)
        rw[WD] at hS;have HS:=aa hS;clear Ws WD hS bQ cH hlen;go_wp2_with(go_at_call 74;go_must(refine HS.o.mono ?_);rintro e uh ⟨rfl,MM,EE⟩;have H10:=aa MM;have Yi:=aa EE;clear MM EE)
        exact⟨⟨k+1,by first|rfl|(rw[Hw.o];rfl),HX.o.1,cU.o.1.step H10.o Yi.o,cU.o.2.trans (Yi.o.mono fun _ _ e=> .inl e)⟩,by first|exact al HX.o.1|(rw[Hw.o];exact al HX.o.1)⟩
      ·have cH:=QE HR.o.1 (QC hk)
       subst cH;have HE:=aa HR.o.2.1;clear HR hk dZ;go_wp2_with fail;go_end0;have e1:BQ s ⟨dO,dep,abN,ag,gone⟩ ao=(List.range 5).foldl (dE SL ag) Tm:=by
        show(List.range 5).foldl (dE (dS dep (foldI bB 0 ao (dN s gone,dO)).2) ag) (foldI bB 0 ao (dN s gone,dO)).1=_;rw[←HD0.o.1,HF3.o.1,pW.o.1]
       rw[e1];exact⟨rfl,HE.o.base.at_,HE.o.aL⟩
end
section
open Go.RowKit
attribute [local go_sem] Oper.semAt_some
def gE (ls:List (Va×List Int)) (k:Nat):Nat:=((ls.take k).flatMap Prod.snd).count 0
theorem Dh (ls:List (Va×List Int)) (k:Nat) (p:Va×List Int) (h:ls[k]? =some p):gE ls (k+1)=gE ls k+p.2.count 0:=by
 unfold gE;rw[aA ls k p h,QP,List.count_append];simp
theorem GR (l:List Int) (j:Nat) (x:Int) (h:l[j]? =some x):(l.take (j+1)).count 0=(l.take j).count 0+if x=0 then 1 else 0:=by
 rw[aA l j x h,List.count_append,List.count_singleton];simp
theorem KO (w:Wo) (pb:Nat) (cells:List aM) (dep:Nat) (sv pv gv:Va) (ag:List Int) (h:aq w pb 152 (di cells dep sv pv gv)) (hl:cells.length=256) (hp:Ns w w.heap.size .i64 pv ag) (dh:ag.length≤100) (S:Nat→Prop) (cv:Va) (ao:List ak) (hc:mI w S cv ao) (oJ:ao.length≤10000) (AW:∀c∈ao,c.blocks.length≤4096):
  Calls prog 68 #[.pointer (some ⟨pb,0,none⟩),cv] w fun r w' =>r= .returned (.int .i64 (qt ag ao:Nat))∧Below w.heap.size w w' :=by
 obtain⟨Ac,cc,rfl⟩:=hc.form;obtain⟨Ap,cp,rfl,-,-⟩:=hp.form;obtain⟨C,hC⟩:=eX ao.length;obtain⟨np,ei⟩:=eX ag.length;have Tx:Ns w w.heap.size .i64 (.slice Ap np cp) ag:=by rw[ei];exact hp
 rw[←ei] at h;rw[←hC];obtain⟨Wd,dJ⟩:=eX w.drew;have AG:=aa dJ.symm;have bd:Below w.heap.size w Wd:=by rw[dJ];exact below_drewN (Xj w.heap.size w) 1
 have Uf:=dK bd.size bd;have aaR:=(bd.cell (p:=⟨pb,770,none⟩) h.lt).trans (h.cell (bq hl 2));have HC:=kH (by rw[hC];exact hc.apart fun x hx=>Or.inr hx:mI w (fun x=>w.heap.size≤x) (.slice Ac C cc) ao) hC (by omega:C≤10000) AW;have HP:=aa Tx;have HPl:=aa dh;obtain⟨T,hT⟩:=eX (qt ag ao);rw[←hT];have HT:=aa hT;have AL:Af (∀W:Wo,Below Wd.heap.size Wd W→Calls prog 147 #[.slice Ac C cc] W fun r w' =>∃v' ls,r= .returned v'∧EG W.heap.size w' v' ls∧ls.map Prod.snd=ao.map (·.blocks)∧Below W.heap.size W w'∧∀p∈ls,Go.Proofs.YthgdhacopamklaaGreat.Ap (fun x=>w.heap.size≤x) p.1):=fun W hW=>sZ W _ _ ao (HC.o.1.on (Uf.o.2.trans (hW.mono Uf.o.1))) (by rw[←HC.o.2.1];exact HC.o.2.2.1)
 clear h hl hp Tx dh hc oJ AW hC ei dJ bd hT;go_enter func68,ntmps68;go_upto_region 2 with fail
 go_cut [17,18,19] from 10 to 19 (fun v17 v18 v19 W=>∃(A7:Option Addr) (c7:Nat) (ls:List (Va×List Int)),v17= .slice A7 (C+1) c7∧v18= .int .i64 (C+1:Nat)∧v19= .int .i64 0∧Af (EG w.heap.size W (.slice A7 (C+1) c7) ls∧ls.length=C+1∧ls.map Prod.snd=ag::ao.map (·.blocks)∧Below w.heap.size w W))
 case first=>
  refine bL (fun j=>[].contains j) (fun W=>Below Wd.heap.size Wd W) (by kernel_rfl) ?_;rw[AG.o];have L:=Xj Wd.heap.size Wd;refine tK 0 10 (.pointer (some ⟨pb,0,none⟩)) rfl rfl rfl (by kernel_rfl) (fun _ _ _ h=>h) (fun W hW=>by go_simp) L ?_
  try simp only[Act.put,Qb,Qc,Qd]
  refine tK 1 11 (.pointer (some ⟨pb,0,none⟩)) rfl rfl rfl (by kernel_rfl) (fun _ _ _ h=>h) (fun W hW=>by go_simp) L ?_
  try simp only[Act.put,Qb,Qc,Qd]
  refine tK 2 12 (.pointer (some ⟨pb,770,none⟩)) rfl rfl rfl (by kernel_rfl) (fun _ _ _ h=>h) (fun W hW=>by go_simp) L ?_
  try simp only[Act.put,Qb,Qc,Qd]
  refine tK 3 13 (.slice Ap np cp) rfl rfl rfl (by kernel_rfl) (fun _ _ _ h=>h) (fun W hW=>by have h0_:=(hW.cell (XX aaR)).trans aaR;go_simp) L ?_
  try simp only[Act.put,Qb,Qc,Qd]
  refine tK 5 15 (.slice Ac C cc) rfl rfl rfl (by kernel_rfl) (fun _ _ _ h=>h) (fun W hW=>by go_simp) L ?_
  try simp only[Act.put,Qb,Qc,Qd]
  refine tK 9 19 (.int .i64 0) rfl rfl rfl (by kernel_rfl) (fun _ _ _ h=>h) (fun W hW=>by go_simp) L ?_
  try simp only[Act.put,Qb,Qc,Qd]
  refine gR [4] [6] (fun a0 i j a W=>∃x14 Tk,a=(a0.put (some 14) x14).put (some 16) Tk∧Below Wd.heap.size Wd W∧(1≤i→∃g,x14= .slice (some ⟨g,0,none⟩) 1 1∧Wd.heap.size≤g∧aq W g 34 [.slice Ap np cp])∧(1≤j→∃(A:Option Addr) (c:Nat) (ls:List (Va×List Int)),Tk= .slice A C c∧ls.map Prod.snd=ao.map (·.blocks)∧ls.length=C∧Sl W W.heap.size 1 (.slice A ls.length c) ls.length (ls.map Prod.fst)∧∀p∈ls,Ns W w.heap.size .i64 p.1 p.2)) 2 rfl (by kernel_rfl) ⟨_,_,Ux (by rfl),L,fun h=>absurd h (by decide),fun h=>absurd h (by decide)⟩ ⟨?_,trivial⟩ ⟨?_,trivial⟩ ?_
  all_goals clear L
  ·rintro j a W ⟨x14,Tk,rfl,L,-,HB⟩;refine bJ rfl (fun K hK=> ?_);obtain⟨V,hV,X,b⟩:=nW W [.slice Ap np cp] 34;simp only[Act.put,Qb,Qc,Qd];go_simp;rw[←hV];refine hK.out _ _ ⟨fun _=>L.trans (b.mono L.size),.slice (some ⟨W.heap.size,0,none⟩) 1 1,Tk,?_,L.trans (b.mono L.size),fun _=>⟨_,rfl,L.size,X⟩,fun h=> ?_⟩
   ·simp only[Act.put,Qb,Qc,Qd]
   ·obtain⟨A,c,ls,e,h1,h2,h3,h4⟩:=HB h;exact⟨A,c,ls,e,h1,h2,Sl.more (Sl.below h3 b) b.size,fun p hp=>Ns.below (h4 p hp) (b.mono (Qh Uf.o.1 L.size))⟩
  ·rintro i a W ⟨x14,Tk,rfl,L,HA,-⟩;refine bJ rfl (fun K hK=> ?_);simp only[Act.put,Qb,Qc,Qd];go_simp;go_at_call 147;refine Calls.mono (AL.o W L) ?_;rintro e V ⟨v6,ls6,rfl,l6,m6,b,a6⟩;obtain⟨A6,c6,rfl⟩:=l6.form;have e6:ls6.length=C:=by have:=XF List.length m6;rw[Qq,Qq] at this;rw[this];exact HC.o.2.1.symm
   go_simp;refine hK.out _ _ ⟨fun _=>L.trans (b.mono L.size),x14,.slice A6 C c6,?_,L.trans (b.mono L.size),fun h=>(HA h).imp fun g hg=>⟨hg.1,hg.2.1,hg.2.2.on b⟩,fun _=>⟨A6,c6,ls6,rfl,m6,e6,Sl.bU l6.row,fun p hp=>abZ ((l6.ns p hp).more b.size) (a6 p hp)⟩⟩;simp only[Act.put,Qb,Qc,Qd]
  ·rintro a V6 ⟨x14,Tk,rfl,L,HA,HB⟩;obtain⟨g4,rfl,G4d,X7⟩:=HA (Qg _);obtain⟨A6,c6,ls6,rfl,m6,e6,l7,M7⟩:=HB (Qg _);have G4:=Qh Uf.o.1 G4d;clear HA HB;simp only[Act.put,Qb,Qc,Qd];refine ju 7 rfl (by kernel_rfl) fun K hK=> ?_
   have P7:=Ns.below HP.o (Uf.o.2.trans (L.mono Uf.o.1));have K7:EG w.heap.size V6 (.slice (some ⟨g4,0,none⟩) 1 1) [(.slice Ap np cp,ag)]:=⟨⟨rfl,.inr ⟨g4,1,_,rfl,G4,X7,Qg _,by unfold maxLen;decide,rfl,rfl⟩⟩,fun p hp=>by rw[Qx.1 hp];exact P7⟩;obtain⟨v7,V7,r7,k7,g7⟩:=xV V6 w.heap.size _ _ K7 _ ls6 _ l7 M7 (by rw[e6];simp;have:=HC.o.2.2;omega) (Qh Uf.o.1 L.size) 251;obtain⟨A7,c7,rfl⟩:=k7.form;have e7:([((Value.slice Ap np cp:Va),ag)]++ls6).length=C+1:=by rw[Qo,e6];exact Nat.add_comm 1 C
   have L7:=L.grown g7 L.size (fun j e=>by have e:=Qr e;rw[←e];exact G4d);rw[e6] at r7;have L:=L7;refine gM (some 17) rfl (by rfl) (ea rfl rfl r7) ?_;refine hK.out _ _ (fun _=>L) ?_;clear hK K
   try simp only[Act.put,Qb,Qc,Qd]
   refine tK 8 18 (.int .i64 (C+1:Nat)) rfl rfl rfl (by kernel_rfl) (fun _ _ _ h=>h) (fun W hW=>by go_simp) L ?_
   try simp only[Act.put,Qb,Qc,Qd]
   refine bD (by kernel_rfl) ?_ _;go_wp2_with fail;go_meet;exact⟨A7,c7,_,by rw[e7],rfl,rfl,by rw[e7] at k7;exact k7,e7,by rw[QL,m6];rfl,Uf.o.2.trans (L.mono Uf.o.1)⟩
 case rest=>
  obtain⟨A7,c7,ls,rfl,rfl,rfl,HR⟩:=hcut;have HTs:Af ((ls.flatMap Prod.snd).count 0=T∧T≤50000000):=by
   have h1:ls.flatMap Prod.snd=ag++dD ao:=by have:ls.flatMap Prod.snd=(ls.map Prod.snd).flatten:=rfl;rw[this,HR.o.2.2.1];rfl
   refine⟨by rw[h1,HT.o];rfl,?_⟩;have h2:∀cs:List ak,(∀c∈cs,c.blocks.length≤4096)→(dD cs).length≤4096*cs.length:=by
    intro cs;induction cs with
    |nil=>intro _;exact Qp _
    |cons c r ih=>
     intro hh;have h3:=ih fun c' TJ =>hh c' (Qs _ TJ)
     have h4:=hh c (Qm ..);have e:dD (c::r)=c.blocks++dD r:=rfl;rw[e,Qo,QF];omega
   have h3:=h2 ao HC.o.2.2.2;rw[HT.o];have h4:qt ag ao≤(ag++dD ao).length:=List.count_le_length;rw[Qo] at h4;have:=HPl.o;have:=HC.o.2.2.1;have:=HC.o.2.1;omega
  have Hm:Af (∀k,gE ls k≤T):=fun k=>by
   rw[←HTs.o.1];unfold gE
   conv=>rhs;rw[←XW k ls,QP,List.count_append]
   exact XM _ _
  have Hml:Af (∀p∈ls,p.2.length≤4096):=fun p hp=>by
   have h1:p.2∈ls.map Prod.snd:=QU.2 ⟨p,hp,rfl⟩;rw[HR.o.2.2.1] at h1;rcases QA.1 h1 with h2|h2
   ·rw[h2];exact Qh HPl.o (by decide)
   ·obtain⟨c,hc,h3⟩:=QU.1 h2;rw[←h3];exact HC.o.2.2.2 c hc
  have AK:=aa HR.o.2.2.2;have HNs:=aa HR.o.1;have lD:=aa HR.o.2.1;have hCn:=HC.o.2.2.1;clear HR aaR;go_wp2_with fail;go_loopw [19,5] (fun i s wr=>∃k:Nat,i= .int .i64 k∧s= .int .i64 (gE ls k)∧Af (k≤C+1∧wc=wr)) (fun i _ _=>(C+1) - (intOf i).toNat)
  case atStart=>exact⟨0,rfl,rfl,Qp _,rfl⟩
  case round=>
   obtain⟨k,rfl,rfl,HR⟩:=hrel;obtain⟨hk,hwr⟩:=HR.o;subst hwr;clear HR;by_cases aJ:k<C+1
   ·obtain⟨p,qZ⟩:∃p,ls[k]? =some p:=⟨_,Qf (by rw[lD.o];exact aJ)⟩;obtain⟨pv,pl⟩:=p;obtain⟨Aq,cq,hpw,-,-⟩:=(HNs.o.ns _ (Qi qZ)).form;have pY:pv= .slice Aq pl.length cq:=hpw;clear hpw;subst pY;obtain⟨b,o,c',Zx,-,-,dL⟩:=(Sl.bU HNs.o.row).row (by rw[lD.o];omega);have hv:A7=some ⟨b,o,none⟩:=by injection Zx
    clear Zx;subst hv;have y0:=dL.2 k _ (by rw[Qt,qZ];rfl);obtain⟨m,hm⟩:=eX pl.length;have AJ:=aa (HNs.o.ns _ (Qi qZ));rw[←hm] at y0 AJ;have w2:wrap64 ((k:Int)+1)=(k:Int)+1:=by unfold wrap64;omega
    have i0:=Xh k;have i1:(k:Int)<((C+1:Nat):Int):=by omega
    have i2:(k:Int)<(C:Int)+1:=by omega
    have hz:=Dh ls k _ qZ;have hzT:=Hm.o (k+1);rw[hz] at hzT;have Hz:=kH hz (Qh hzT HTs.o.2) hm aJ;have Hw:=aa w2;have hm6:m≤1000000:=by rw[hm];exact Qh (Hml.o _ (Qi qZ)) (by decide)
    have Hm6:=aa hm6;clear qZ dL hm hz hzT hk aJ w2 hm6;go_wp2_with fail;go_loop [25,5] (fun i s=>∃j:Nat,j≤m∧i= .int .i64 j∧s= .int .i64 ((gE ls k+(pl.take j).count 0:Nat):Int)) (fun i _=>m - (intOf i).toNat)
    case atStart=>exact⟨0,Qp _,rfl,by rw[Zq];rfl⟩
    case round=>
     obtain⟨j,hj,rfl,rfl⟩:=hrel;by_cases JK:j<m
     ·obtain⟨b2,o2,c2,af8,-,-,-,aH⟩:=AJ.o.cells (by rw[←Hz.o.2.2.1];omega);have AO:Aq=some ⟨b2,o2,none⟩:=by injection af8
      clear af8;subst AO;obtain⟨x,hx⟩:=eX (pl.getD j 0);have oP:pl[j]? =some x:=by rw[hx,Qe,Qf (by rw[←Hz.o.2.2.1];exact JK)];rfl
      have z0:=aH j (by rw[←Hz.o.2.2.1];exact JK);rw[←hx] at z0;have w3:wrap64 ((j:Int)+1)=(j:Int)+1:=by have:=Hm6.o;unfold wrap64;omega
      have j0:=Xh j;have j1:(j:Int)<m:=by omega
      have hc:=GR pl j x oP;have oJ:(pl.take j).count 0+1≤1000001:=by have h1:(pl.take j).count 0≤(pl.take j).length:=List.count_le_length;have h2:=Hm6.o;rw[Qu] at h1;omega
      obtain⟨q,hq⟩:=eX (gE ls k+(pl.take j).count 0);have w4:wrap64 ((q:Int)+1)=(q:Int)+1:=by
       have h1:=Hz.o.2.1;have h2:gE ls k≤50000000:=by omega
       unfold wrap64;omega
      have Hq:=iJ hq hc JK;have NG:=aa w3;have Hw4:=aa w4;rw[←hq];clear aH hx oP hc oJ hq hj JK w3;by_cases gd:x=0
      ·rw[gd] at z0;go_wp2_with fail;exact⟨⟨j+1,Hq.o.2.2,by first|rfl|(rw[NG.o];rfl),by rw[Hq.o.2.1,Xo gd,←XB,←Hq.o.1];first|rfl|(rw[Hw4.o];rfl)⟩,by first|exact al Hq.o.2.2|(rw[NG.o];exact al Hq.o.2.2)⟩
      ·go_wp2_with fail;exact⟨⟨j+1,Hq.o.2.2,by first|rfl|(rw[NG.o];rfl),by rw[Hq.o.2.1,Xd gd,XC,←Hq.o.1]⟩,by first|exact al Hq.o.2.2|(rw[NG.o];exact al Hq.o.2.2)⟩
     ·have agB:=QE hj (QC JK);have e1:gE ls k+(pl.take j).count 0=gE ls (k+1):=by rw[agB,Qj (by rw[Hz.o.2.2.1];exact Qg _),Hz.o.1]
      rw[e1];have Wp:¬(j:Int)<m:=by omega
      clear JK agB e1 hj;go_wp2_with fail;exact⟨⟨_,_,_,_,⟨k+1,rfl,rfl,Hz.o.2.2.2⟩,rfl,rfl,rfl,by first|rfl|(rw[Hw.o];rfl)⟩,by first|exact al Hz.o.2.2.2|(rw[Hw.o];exact al Hz.o.2.2.2)⟩
   ·have SJ:=QE hk (QC aJ);subst SJ;have e1:gE ls (C+1)=T:=by unfold gE;rw[Qj (by rw[lD.o];exact Qg _),HTs.o.1]
    rw[e1];clear e1 hk aJ;go_wp2_with fail
    try rw[Qv]
    go_ret;exact⟨rfl,AK.o⟩
end
end Go.Proofs.YthgdhacopamklaaGreat

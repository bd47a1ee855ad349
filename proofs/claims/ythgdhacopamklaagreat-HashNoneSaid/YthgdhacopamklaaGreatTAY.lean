/- What HashNone asks, part 25 of 41: parts of the walks and laws, each true as it stands. -/
import Derived.Test.YthgdhacopamklaaGreatTAX
set_option maxHeartbeats 16000000
set_option maxRecDepth 100000
set_option linter.unusedVariables false
set_option linter.unusedSimpArgs false
namespace Go.Proofs.YthgdhacopamklaaGreat
open Go.Proofs.Tryz
section
open Go.RowKit
attribute [local go_sem] Oper.semAt_some
variable {w w' : Wo} {S T : Nat → Prop} {v : Va} {c : ak} {b base : Nat} {cs : List ak} {l : List aD}
theorem jw.apart (h:jw w S v c) (hT:∀x,T x→S x∨w.heap.size≤x):jw w T v c:=by
 obtain⟨bv,sv,ps,e,h1,h2,h3,h4⟩:=h.ex;exact⟨bv,sv,ps,e,h1,Sl.apart h1 h2 hT,h3.apart hT,h4⟩
def Nz (m:ak×Va×Va):List Va:=[.int .i64 m.1.ax,.int .i64 m.1.depth,m.2.1,m.2.2]
def chA (m:ak×Va×Va):Va:= .agg #[.int .i64 m.1.ax,.int .i64 m.1.depth,m.2.1,m.2.2]
theorem VN {m:ak×Va×Va} (h:jw w S (chA m) m.1):∀u∈Nz m,u.oneCell' =true:=by
 obtain⟨bv,sv,ps,e,h1,-,h2,-⟩:=h.ex;obtain⟨A,c,hv,-,-⟩:=h1.form;obtain⟨A2,c2,AO⟩:=h2.s.form;unfold chA at e;injection e with e
 simp at e;obtain⟨e1,e2⟩:=e;intro u hu;simp[Nz] at hu;rcases hu with rfl|rfl|rfl|rfl
 ·rfl
 ·rfl
 ·rw[e1,hv];rfl
 ·rw[e2,AO];rfl
def nA (S:Nat→Prop) (v:Va):Nat→Prop:=fun x=>S x∨v.ownBlock=some x
structure eN (w:Wo) (S:Nat→Prop) (base:Nat) (v:Va) (cs:List ak):Prop where
 ex:∃ms:List (ak×Va×Va),w.ownsRow base 50 4 v ms.length (ms.flatMap Nz)∧(∀m∈ms,jw w (nA S v) (chA m) m.1)∧ms.map Prod.fst=cs
theorem eN.on (h:eN w S base v cs) (hb:Below w.heap.size w w'):eN w' S base v cs:=by
 obtain⟨ms,h1,h2,h3⟩:=h.ex;exact⟨ms,aS h1 hb,fun m hm=>(h2 m hm).on hb,h3⟩
theorem eN.low {b' :Nat} (h:eN w S b v cs) (hb:b'≤b):eN w S b' v cs:=by
 obtain⟨ms,h1,h2,h3⟩:=h.ex;exact⟨ms,fB h1 hb,h2,h3⟩
theorem eN.mono (h:eN w S b v cs) (hT:∀x,T x→S x):eN w T b v cs:=by
 obtain⟨ms,h1,h2,h3⟩:=h.ex;exact⟨ms,h1,fun m hm=>(h2 m hm).mono (fun x hx=>hx.imp (hT x) id),h3⟩
theorem eN.form (h:eN w S base v cs):∃A n c,v= .slice A n c:=by
 obtain⟨ms,h1,-,-⟩:=h.ex;rcases h1.2 with⟨rfl,_⟩|⟨g,cap,cur,rfl,_⟩<;>exact⟨_,_,_,rfl⟩
theorem eN.own (h:eN w S base v cs):∀k,v.ownBlock=some k→base≤k∧k<w.heap.size:=by
 obtain⟨ms,h1,-,-⟩:=h.ex;exact fun k hk=>Xr h1 k hk
theorem nG {g:Nat} {bv sv:Va} (hx:aq w g 50 [.int .i64 c.ax,.int .i64 c.depth,bv,sv]) (hc:jw w (fun x=>S x∨x=g) (.agg #[.int .i64 c.ax,.int .i64 c.depth,bv,sv]) c) (hb:base≤g):eN w S base (.slice (some ⟨g,0,none⟩) 1 1) [c]:=by
 refine⟨[(c,bv,sv)],⟨rfl,.inr ⟨g,1,_,rfl,hb,hx,Qg _,by unfold maxLen;decide,rfl,rfl⟩⟩,fun m hm=> ?_,rfl⟩;rw[Qx] at hm;subst hm;refine hc.mono (fun x hx=> ?_);rcases hx with hx|hx
 ·exact Or.inl hx
 ·exact Or.inr (Qr hx).symm
theorem uZ (w:Wo) (S:Nat→Prop) (base:Nat) (v:Va) (cs:List ak) (h:eN w S base v cs) (vx:Va) (b' :Nat) (ds:List ak) (hx:eN w (nA S v) b' vx ds) (hl:cs.length+ds.length≤10000) (hb:base≤w.heap.size) (ty:TypeId):
  ∃v' w',(Builtin.append_ #[45,45] ty #[v,vx]).run prog w= .ok v' w'∧eN w' S base v' (cs++ds)∧w.grownBy w' v.ownBlock:=by
 obtain⟨ms,h1,h2,h3⟩:=h.ex;obtain⟨ns,k1,k2,k3⟩:=hx.ex;have Wq:ms.length=cs.length:=by rw[←h3,Qq]
 have oc:ns.length=ds.length:=by rw[←k3,Qq]
 obtain⟨v',w',r1,r2,r3,r4⟩:=cy (P:=prog) w base 45 ty 50 _ 4 64 underlying45 Yu rfl (by decide) v ms.length _ h1 (B:=w.heap.size) vx ns.length (ns.flatMap Nz)
  (Sl.bU k1) (fun u hu=>by obtain⟨m,hm,hu⟩:=QT.1 hu;exact VN (k2 m hm) u hu) (by unfold maxLen;omega) (by omega) hb
 have bm:∀m∈ms++ns,jw w (nA S v) (chA m) m.1:=fun m hm=>by
  rcases Qz.1 hm with hm|hm
  ·exact h2 m hm
  ·exact(k2 m hm).mono (fun x hx=>Or.inl hx)
 have kG:=aG.dH r3 (fun x _ e=>e);refine⟨v',w',r1,⟨ms++ns,by rw[Qo,QP];exact r2,fun m hm=> ?_,by rw[QL,h3,k3]⟩,r3⟩;have ht:∀x,nA S v' x∨v.ownBlock=some x→nA S v x∨w.heap.size≤x:=fun x hx=>by
  rcases hx with(hx|hx)|hx
  ·exact Or.inl (Or.inl hx)
  ·rcases r4 with r4|r4
   ·exact Or.inl (Or.inr (r4.symm.trans hx))
   ·rw[r4] at hx;rw[←Qr hx];exact Or.inr (Qg _)
  ·exact Or.inl (Or.inr hx)
 exact(((bm m hm).apart ht).aL kG (fun x hx=>Or.inr hx)).mono (fun x hx=>Or.inl hx)
theorem Cd (h:ur c) (half ax:Nat):(fR c half ax).blocks.length≤c.blocks.length:=by
 obtain⟨s,r,b,br,h1,h2,h3,-,-⟩:=h.cons;have ha:∀(f d:Nat) (l:List aD) (bs:List Int) (ss:List ay),(bZ f d l bs ss).blocks.length≤bs.length+1:=fun f d l bs ss=>by
  unfold bZ;split
  ·exact Q0 _
  ·exact Qg _
 unfold fR;rw[h2];split
 ·exact Qh (ha _ _ _ _ _) (by simp)
 ·exact ha _ _ _ _ _
structure Lw (w W:Wo):Prop where
 b:Below w.heap.size w W
theorem Lw.on {W W' :Wo} (h:Lw w W) (hb:Below W.heap.size W W'):Lw w W' :=⟨h.b.trans (hb.mono h.b.size)⟩
theorem eN.apart (h:eN w S b v cs) (hT:∀x,T x→S x∨w.heap.size≤x):eN w T b v cs:=by
 obtain⟨ms,h1,h2,h3⟩:=h.ex;refine⟨ms,h1,fun m hm=>(h2 m hm).apart (fun x hx=> ?_),h3⟩;rcases hx with hx|hx
 ·exact(hT x hx).imp (fun h=>Or.inl h) id
 ·exact Or.inl (Or.inr hx)
theorem gX:∀(k:Nat) (c:ak) (e:aD),(cP k c e).length≤k+1
 |0,_,_=>Qp _
 |k+1,c,e=>by
  unfold cP;split
  ·exact Nat.succ_le_succ (Qp _)
  ·split
   ·exact Nat.succ_le_succ (Qp _)
   ·split
    ·rw[Qo];exact Nat.succ_le_succ (gX k _ e)
    ·exact Nat.succ_le_succ (gX k _ e)
theorem cV.on (h:cV w base v l) (hb:Below w.heap.size w w'):cV w' base v l:=aS h hb
theorem Vo (h:cV w base v l) (ho:∀e∈l,eR e):Es w w.heap.size v l:=⟨Sl.bU h,ho⟩
end
section
open Go.RowKit
attribute [local go_sem] Oper.semAt_some
theorem Il (w:Wo) (S:Nat→Prop) (hS:∀x,S x→x<w.heap.size) (c:ak) (hc:ur c) (v:Va) (h:jw w S v c) (cC:c.blocks.length≤4096) (e:aD) (he:tw e) (MF:eR e) (aJ:c.first.length<9):
  Calls prog 64 #[v,jz e] w fun r w' =>∃v',r= .returned v'∧eN w' S w.heap.size v' [bZ c.ax c.depth (qi c.first e) c.blocks.tail c.ah.tail]∧Below w.heap.size w w' :=by
 obtain⟨cv,ZZ⟩:=eX (bZ c.ax c.depth (qi c.first e) c.blocks.tail c.ah.tail);rw[←ZZ];have Hcv:=aa ZZ;clear ZZ;obtain⟨s1,r1,b1,br,k1,k2,k3,k4,k5⟩:=hc.cons;obtain⟨bv,sv,ps,rfl,hb,pq,hs,fc⟩:=h.ex;obtain⟨Ab,fQ,rfl,-,-⟩:=hb.form;obtain⟨As,gq,rfl⟩:=hs.s.form;have dh:ps.length=c.ah.length:=by rw[←fc,Qq]
 have jX:c.blocks.length=ps.length:=by rw[dh];exact hc.ok.len
 obtain⟨n,hn⟩:=eX ps.length;rw[jX,←hn] at hb pq cC;rw[jX,←hn];rw[←hn] at hs;cases ps with
 |nil=>rw[k1] at dh;simp at dh
 |cons p0 pr=>
 obtain⟨bb,ob,ug,oQ,-,-,bO,-⟩:=hb.cells (by rw[jX];simp);obtain rfl:Ab=some ⟨bb,ob,none⟩:=by injection oQ
 obtain⟨bs,os,ks,Na,iV,-,-,s2⟩:=hs.s.cells (k:=0) (p:=p0) rfl;obtain rfl:As=some ⟨bs,os,none⟩:=by injection Na
 rw[Xz,XC] at s2;have tA:p0.1=s1:=by have h1:=fc;rw[k1] at h1;exact(List.cons.inj h1).1
 have gY:pr.map Prod.fst=r1:=by have h1:=fc;rw[k1] at h1;exact(List.cons.inj h1).2
 have eE:=hs.s.es p0 (Qm ..);rw[tA] at eE;obtain⟨Ae,ce,hU,-,-⟩:=eE.1.1.form;obtain⟨ne,bT⟩:=eX s1.es.length;rw[←bT] at hU;have JN:=hs.e p0 (Qm ..);rw[hU] at s2 eE JN;obtain⟨ax,eo⟩:=eX c.ax;obtain⟨dep,eK⟩:=eX c.depth;obtain⟨er,pU⟩:=eX e.print;obtain⟨ek,mF⟩:=eX e.block;unfold jz;rw[←eo,←eK,←pU,←mF];have ei:=hn;have gZ:n=br.length+1:=by rw[hn,←jX,k2];rfl
 have AQ:=fZ (hc.ok.right s1 (by rw[k1];exact Qm ..));obtain⟨W0,aY,X0,B0⟩:=nW w [.int .i64 ax,.int .i64 dep,.slice (some ⟨bb,ob,none⟩) n fQ,.slice (some ⟨bs,os,none⟩) n gq] 50;have lz:W0.heap.size=w.heap.size+1:=by rw[aY];simp
 obtain⟨W1,aW,E1,B1⟩:=nW W0 [.int .u64 er,.int .u32 ek] 68;have fI:=B0.trans (B1.mono B0.size);have X1:=X0.on B1;obtain⟨eb,mR⟩:=eX (w.heap.size+1);rw[lz,←mR] at E1;have HW:=iJ aY.symm aW.symm mR.symm;have tl:=aa X1;have Yb:=aa E1;have wP:=aa fI;have EH:=aa ((fI.cell (XX s2)).trans s2);have wN:=aa (gA eE.1 fI);have wE:=iJ (dU hb fI) pq (hs.on fI);have HI:Af ((∀x,S x→x<w.heap.size)∧ur c∧n≤4096∧(ax=c.ax∧dep=c.depth∧er=e.print∧ek=e.block)∧tw e∧eR e∧c.ah=s1::r1∧c.blocks=b1::br∧c.first=s1.es∧p0.1=s1∧pr.map Prod.fst=r1∧n=pr.length+1∧n=br.length+1∧ne=s1.es.length∧s1.es.length≤9∧dV s1.es=true∧Ap S (.slice Ae ne ce)):=
  ⟨hS,hc,cC,⟨eo,eK,pU,mF⟩,he,MF,k1,k2,k5,tA,gY,ei,gZ,bT,AQ.1,AQ.2.1,JN⟩
 have N5:(ne:Int)<9:=by rw[k5,←bT] at aJ;exact Xi.2 aJ
 have anP:Af (s1.es.length<9):=by rw[←k5];exact aJ
 have jU:(0:Int)<n:=by rw[ei];exact Xi.2 (Nat.succ_pos _)
 have n1:(1:Int)≤n:=jU;have ncb:(1:Int)≤fQ:=by have h1:=nk hb;rw[jX] at h1;exact Int.ofNat_le.2 (Qh (by simp) h1)
 have ncs:(1:Int)≤gq:=by have h1:=nk hs.s.sl;exact Int.ofNat_le.2 (Qh (by simp) h1)
 have JP:=Jg (x:=b1) (r:=br) (by have h1:=hb;rw[k2] at h1;exact h1) gZ;have cO:=Cf hs.s ei;have AX:fQ=1→n=1:=fun h=>by have h1:=nk hb;rw[jX,h] at h1;simp at h1;rw[ei,h1];rfl
 have Wi:gq=1→n=1:=fun h=>by have h1:=nk hs.s.sl;rw[h] at h1;simp at h1;rw[ei,h1];rfl
 obtain⟨tb,pS⟩:∃tb:Va,(fQ≠1∧tb= .slice (some ⟨bb,ob+1,none⟩) (n - 1) (fQ - 1))∨(fQ=1∧n=1∧tb= .slice (some ⟨bb,ob,none⟩) 0 0):=by
  by_cases hq:fQ=1
  ·exact⟨_,Or.inr ⟨hq,AX hq,rfl⟩⟩
  ·exact⟨_,Or.inl ⟨hq,rfl⟩⟩
 obtain⟨ts,ZC⟩:∃ts:Va,(gq≠1∧ts= .slice (some ⟨bs,os+3,none⟩) (n - 1) (gq - 1))∨(gq=1∧n=1∧ts= .slice (some ⟨bs,os,none⟩) 0 0):=by
  by_cases hq:gq=1
  ·exact⟨_,Or.inr ⟨hq,Wi hq,rfl⟩⟩
  ·exact⟨_,Or.inl ⟨hq,rfl⟩⟩
 have HTb:Af (Ns W1 W1.heap.size .i64 tb br∧Ap S tb):=by
  rcases pS with⟨hq,rfl⟩|⟨hq,-,rfl⟩
  ·exact⟨dU (JP.1 hq) fI,rG pq (by rw[gZ];exact Nat.succ_pos _)⟩
  ·exact⟨dU (JP.2 hq) fI,rG pq (by rw[gZ];exact Nat.succ_pos _)⟩
 have HTs:Af (iP W1 S ts pr):=by
  rcases ZC with⟨hq,rfl⟩|⟨hq,-,rfl⟩
  ·exact⟨(cO.1 hq).on fI,rG hs.a (by rw[ei];exact Nat.succ_pos _),fun p hp=>hs.e p (Qs _ hp)⟩
  ·exact⟨(cO.2 hq).on fI,rG hs.a (by rw[ei];exact Nat.succ_pos _),fun p hp=>hs.e p (Qs _ hp)⟩
 have Htb:=aa pS;have Hts:=aa ZC;have s2' :=EH.o;have x3:=X1.cell (j:=3) rfl;obtain⟨e0,e1⟩:=gh E1;clear aJ JP cO AX Wi pS ZC;clear hS hc h cC he MF k1 k2 k3 k4 k5 hb pq hs fc dh jX hn oQ bO Na iV s2 tA gY eE hU bT JN eo eK pU mF ei gZ AQ aY X0 B0 lz aW E1 B1 fI X1 mR;go_enter func64,ntmps64;go_upto_region 1 with fail
 rw[HW.o.1,HW.o.2.1]
 try rw[HW.o.2.2]
 go_upto_region 3 with fail
 have HBs:Af (Calls prog 130 #[.slice Ae ne ce,.agg #[.int .u64 er,.int .u32 ek],.func (.func 131) #[] #[]] W1 fun r w' =>∃found,r= .returned (.tuple #[.int .i64 (tr s1.es e),.bool found])∧Below W1.heap.size W1 w'):=by have h1:=An W1 _ s1.es e wN.o HI.o.2.2.2.2.2.2.2.2.2.2.2.2.2.2.1 HI.o.2.2.2.2.2.2.2.2.2.2.2.2.2.2.2.1;unfold jz at h1;rw[←HI.o.2.2.2.1.2.2.1,←HI.o.2.2.2.1.2.2.2] at h1;exact h1
 obtain⟨I0,Iv⟩:=eX (tr s1.es e);rw[←Iv] at HBs;have ID:=dK Iv (by rw[Iv];exact VB _ _:I0≤s1.es.length);clear Iv s2' x3;go_upto_region 4 with(go_at_call 130;go_must(refine HBs.o.mono ?_);rintro e W2 ⟨found,rfl,b2⟩;have B2:=aa b2;clear b2)
 have tF:=B2.o.drew;obtain⟨Wd,dJ⟩:=eX W2.drew;rw[←dJ] at tF;have AK:=aa (wP.o.trans (tF.mono wP.o.size));have HXd:=tl.o.on tF;have abF:=Yb.o.on tF;obtain⟨x0,x1,x2,x3⟩:=mm HXd;obtain⟨e0,e1⟩:=gh abF;have HEd:=aa (gA wN.o tF);have UM:c.blocks.tail=br∧c.ah.tail=r1∧c.first=s1.es:=⟨by rw[HI.o.2.2.2.2.2.2.2.1];rfl,by rw[HI.o.2.2.2.2.2.2.1];rfl,HI.o.2.2.2.2.2.2.2.2.1⟩;obtain⟨n9,hn9⟩:=eX ((qi s1.es e).length);have Hn9:=aa hn9;have HAh:Af (∀W v9,Below Wd.heap.size Wd W→cV W Wd.heap.size v9 (qi s1.es e)→Calls prog 135 #[.int .i64 ax,.int .i64 dep,v9,tb,ts] W fun r w' =>∃v,r= .returned v∧jw w' S v cv∧Below W.heap.size W w'):=fun W v9 hW ho=>by
  have TM :∀x,S x→x<Wd.heap.size:=fun x hx=>Qn (HI.o.1 x hx) AK.o.size
  have h1:=pR W S (fun x hx=>Qn (TM x hx) hW.size) ax dep (qi s1.es e) br pr v9 tb ts (by rw[HI.o.2.2.2.1.2.1];exact HI.o.2.1.ok.d8)
   (Vo ho (fun x hx=>by
    rcases QA.1 ((rV s1.es e).mem_iff.1 hx) with rfl|hx
    ·exact HI.o.2.2.2.2.2.1
    ·exact wN.o.2 x hx)) (jG ho TM) (by rw[RJ];exact Nat.succ_le_of_lt anP.o)
   (dU (dU HTb.o.1 tF) hW) HTb.o.2 ((HTs.o.on tF).on hW) (by have h2:=HI.o.2.2.2.2.2.2.2.2.2.2.2.1;have h3:=HI.o.2.2.2.2.2.2.2.2.2.2.2.2.1;omega)
   (by have h2:=HI.o.2.2.1;have h3:=HI.o.2.2.2.2.2.2.2.2.2.2.2.2.1;omega) (fun x hx=>HI.o.2.1.Ej x (by rw[HI.o.2.2.2.2.2.2.2.1];exact Qs _ hx))
  rw[HI.o.2.2.2.2.2.2.2.2.2.2.1,HI.o.2.2.2.1.1,HI.o.2.2.2.1.2.1] at h1;rw[Hcv.o,UM.1,UM.2.1,UM.2.2,HI.o.2.2.2.1.1,HI.o.2.2.2.1.2.1];exact h1
 have L:Lw Wd Wd:=⟨Xj _ _⟩;clear tF HXd abF UM hn9 HBs;refine bL (fun j=>[].contains j) (fun W=>Below Wd.heap.size Wd W) (by kernel_rfl) ?_;rw[←dJ];clear dJ;refine tK 0 25 (.pointer (some ⟨w.heap.size,0,none⟩)) rfl rfl rfl (by kernel_rfl) (fun _ _ _ h=>h) (fun W hW=>by go_simp) L.b ?_
 try simp only[Act.put,Qb,Qc,Qd]
 refine tK 1 26 (.int .i64 ax) rfl rfl rfl (by kernel_rfl) (fun _ _ _ h=>h) (fun W hW=>by have hx:=(hW.cell (XX x0)).trans x0;go_simp) L.b ?_
 try simp only[Act.put,Qb,Qc,Qd]
 refine tK 2 27 (.pointer (some ⟨w.heap.size,1,none⟩)) rfl rfl rfl (by kernel_rfl) (fun _ _ _ h=>h) (fun W hW=>by go_simp) L.b ?_
 try simp only[Act.put,Qb,Qc,Qd]
 refine tK 3 28 (.int .i64 dep) rfl rfl rfl (by kernel_rfl) (fun _ _ _ h=>h) (fun W hW=>by have hx:=(hW.cell (XX x1)).trans x1;go_simp) L.b ?_
 try simp only[Act.put,Qb,Qc,Qd]
 refine tK 4 29 (.slice Ae ne ce) rfl rfl rfl (by kernel_rfl) (fun _ _ _ h=>h) (fun W hW=>by go_simp) L.b ?_
 try simp only[Act.put,Qb,Qc,Qd]
 refine tK 6 31 (.int .i64 I0) rfl rfl rfl (by kernel_rfl) (fun _ _ _ h=>h) (fun W hW=>by go_simp) L.b ?_
 try simp only[Act.put,Qb,Qc,Qd]
 refine tK 7 32 (.agg #[.int .u64 er,.int .u32 ek]) rfl rfl rfl (by kernel_rfl) (fun _ _ _ h=>h) (fun W hW=>by have hx:=(hW.cell (XX e0)).trans e0;have hy:=(hW.cell (XX e1)).trans e1;go_simp) L.b ?_
 try simp only[Act.put,Qb,Qc,Qd]
 refine tK 10 35 (.pointer (some ⟨w.heap.size,2,none⟩)) rfl rfl rfl (by kernel_rfl) (fun _ _ _ h=>h) (fun W hW=>by go_simp) L.b ?_
 try simp only[Act.put,Qb,Qc,Qd]
 refine tK 11 36 (.slice (some ⟨bb,ob,none⟩) n fQ) rfl rfl rfl (by kernel_rfl) (fun _ _ _ h=>h) (fun W hW=>by have hx:=(hW.cell (XX x2)).trans x2;go_simp) L.b ?_
 try simp only[Act.put,Qb,Qc,Qd]
 refine tK 12 37 tb rfl rfl rfl (by kernel_rfl) (fun _ _ _ h=>h) (fun W hW=>by rcases Htb.o with⟨hq,hv⟩|⟨hq,MD,hv⟩<;>(rw[hv];(try subst hq);(try subst MD);go_simp)) L.b ?_
 try simp only[Act.put,Qb,Qc,Qd]
 refine tK 13 38 (.pointer (some ⟨w.heap.size,3,none⟩)) rfl rfl rfl (by kernel_rfl) (fun _ _ _ h=>h) (fun W hW=>by go_simp) L.b ?_
 try simp only[Act.put,Qb,Qc,Qd]
 refine tK 14 39 (.slice (some ⟨bs,os,none⟩) n gq) rfl rfl rfl (by kernel_rfl) (fun _ _ _ h=>h) (fun W hW=>by have hx:=(hW.cell (XX x3)).trans x3;go_simp) L.b ?_
 try simp only[Act.put,Qb,Qc,Qd]
 refine tK 15 40 ts rfl rfl rfl (by kernel_rfl) (fun _ _ _ h=>h) (fun W hW=>by rcases Hts.o with⟨hq,hv⟩|⟨hq,MD,hv⟩<;>(rw[hv];(try subst hq);(try subst MD);go_simp)) L.b ?_
 try simp only[Act.put,Qb,Qc,Qd]
 refine gR [5] [8] (fun a0 i j a W=>∃VZ YW,a=(a0.put (some 30) VZ).put (some 33) YW∧Lw Wd W∧(1≤i→∃A c,VZ= .slice A s1.es.length c∧cV W Wd.heap.size VZ s1.es)∧(1≤j→∃g,YW= .slice (some ⟨g,0,none⟩) 1 1∧aq W g 68 [.int .u64 er,.int .u32 ek])∧(1≤i→1≤j→VZ.ownBlock≠YW.ownBlock)) 4 rfl (by kernel_rfl) ⟨_,_,Ux (by rfl),L,fun h=>absurd h (by decide),fun h=>absurd h (by decide),fun h=>absurd h (by decide)⟩ ⟨?_,trivial⟩ ⟨?_,trivial⟩ ?_
 all_goals clear L
 ·rintro j a W ⟨VZ,YW,rfl,L,-,HB,-⟩;refine bJ rfl (fun K hK=> ?_);simp only[Act.put,Qb,Qc,Qd];go_simp;go_at_call 137;refine Calls.mono (vU W _ _ s1.es (gA HEd.o L.b) (Qg _) (Qh HI.o.2.2.2.2.2.2.2.2.2.2.2.2.2.2.1 (by decide))) ?_;rintro e V ⟨v5,rfl,o5,b⟩;obtain⟨A5,c5,rfl⟩:=cV.form o5;go_simp;refine hK.out _ _ ⟨fun _=>(L.on b).b,.slice A5 s1.es.length c5,YW,?_,L.on b,fun _=>⟨_,_,rfl,fB o5 L.b.size⟩,fun h=>(HB h).imp fun g hg=>⟨hg.1,hg.2.on b⟩,fun _ h he=> ?_⟩
  ·simp only[Act.put,Qb,Qc,Qd]
  ·obtain⟨g,rfl,X⟩:=HB h;exact absurd (Qn X.lt (Xr o5 g (he.trans rfl)).1) (XI _)
 ·rintro i a W ⟨VZ,YW,rfl,L,HA,-,-⟩;refine bJ rfl (fun K hK=> ?_);obtain⟨V,hV,X,b⟩:=nW W [.int .u64 er,.int .u32 ek] 68;simp only[Act.put,Qb,Qc,Qd];go_simp;rw[←hV];refine hK.out _ _ ⟨fun _=>(L.on b).b,VZ,.slice (some ⟨W.heap.size,0,none⟩) 1 1,?_,L.on b,fun h=>(HA h).imp fun A hA=>hA.imp fun c hc=>⟨hc.1,hc.2.on b⟩,fun _=>⟨_,rfl,X⟩,fun h _ he=> ?_⟩
  ·simp only[Act.put,Qb,Qc,Qd]
  ·obtain⟨A,c,rfl,o⟩:=HA h;exact absurd (Xr o _ (he.trans rfl)).2 (XI _)
 ·rintro a V8 ⟨VZ,YW,rfl,L,HA,HB,HN⟩;obtain⟨A5,c5,rfl,O5⟩:=HA (Qg _);obtain⟨g8,rfl,X8⟩:=HB (Qg _);have N5:=HN (Qg _) (Qg _);clear HA HB HN;simp only[Act.put,Qb,Qc,Qd];refine ju 9 rfl (by kernel_rfl) fun K hK=> ?_
  have HI9:=DG V8 Wd.heap.size _ _ s1.es I0 e O5 L.b.size ID.o.2 (Qh HI.o.2.2.2.2.2.2.2.2.2.2.2.2.2.2.1 (by decide)) X8.lt N5 (by unfold dC;rw[←HI.o.2.2.2.1.2.2.1,←HI.o.2.2.2.1.2.2.2];exact X8) HI.o.2.2.2.2.2.1;clear N5;go_simp;go_at_call 136;refine Calls.mono HI9 ?_;rintro e V9 ⟨v9,rfl,o9,g9⟩;have L:=Lw.mk (L.b.grown g9 L.b.size (fun k e=>(Xr O5 k e).1));have O9:cV V9 Wd.heap.size v9 (qi s1.es e):=by unfold qi;rw[←ID.o.1];exact o9
  obtain⟨A9,c9,Ea⟩:=cV.form O9;rw[←Hn9.o] at Ea;subst Ea;clear o9 g9 O5 X8 HI9;go_simp;refine hK.out _ _ (fun _=>L.b) ?_;clear hK K
  try simp only[Act.put,Qb,Qc,Qd]
  refine ju 16 rfl (by kernel_rfl) fun K hK=> ?_
  have HA:=HAh.o V9 (.slice A9 n9 c9) L.b O9;go_simp;go_at_call 135;refine Calls.mono HA ?_;rintro e V16 ⟨v16,rfl,abl,b16⟩;obtain⟨avV,avF,amP,rfl,q1,q2,q3,q4⟩:=abl.ex;obtain⟨A16,c16,rfl,-,-⟩:=q1.form;obtain⟨aob,anx,rfl⟩:=q3.s.form;have C16:=abl.apart (T:=fun x=>S x∨x=V16.heap.size) (fun x hx=>hx.imp id (fun h=>by rw[h];exact Qg _));have SZ:=aa (Qh AK.o.size (Qh L.b.size b16.size));clear q1 q2 q3 q4 abl HA;have L:=L.on b16;have O9:=O9.on b16;go_simp;refine hK.out _ _ (fun _=>L.b) ?_;clear hK K
  try simp only[Act.put,Qb,Qc,Qd]
  refine ju 17 rfl (by kernel_rfl) fun K hK=> ?_
  obtain⟨V17,agZ,X17,b17⟩:=nW V16 [.int .i64 cv.ax,.int .i64 cv.depth,.slice A16 cv.blocks.length c16,.slice aob amP.length anx] 50;have L:=L.on b17;have O9:=O9.on b17;have C16:=C16.on b17;go_simp;rw[←agZ];clear agZ;refine hK.out _ _ (fun _=>L.b) ?_;clear hK K
  try simp only[Act.put,Qb,Qc,Qd]
  refine ju 18 rfl (by kernel_rfl) fun K hK=> ?_
  go_simp;refine hK.out _ _ (fun _=>L.b) ?_;clear hK K
  try simp only[Act.put,Qb,Qc,Qd]
  refine bD (by kernel_rfl) ?_ _;go_wp2_with fail
  try rw[Qv]
  go_ret;exact⟨_,rfl,nG X17 C16 SZ.o,AK.o.trans (L.b.mono AK.o.size)⟩
theorem Ik (w:Wo) (S:Nat→Prop) (hS:∀x,S x→x<w.heap.size) (c:ak) (hc:ur c) (v:Va) (h:jw w S v c) (cC:c.blocks.length≤4096) (e:aD) (he:tw e) (MF:eR e) (pj:¬c.first.length<9) (EC:rH c e=true):
  Calls prog 64 #[v,jz e] w fun r w' =>∃v',r= .returned v'∧eN w' S w.heap.size v' [bZ c.ax c.depth [e] c.blocks c.ah]∧Below w.heap.size w w' :=by
 obtain⟨cv,ZZ⟩:=eX (bZ c.ax c.depth [e] c.blocks c.ah);rw[←ZZ];have Hcv:=aa ZZ;have Hal:=aa EC;have Hps:=aa h;clear ZZ EC;obtain⟨s1,r1,b1,br,k1,k2,k3,k4,k5⟩:=hc.cons;obtain⟨bv,sv,ps,rfl,hb,pq,hs,fc⟩:=h.ex;obtain⟨Ab,fQ,rfl,-,-⟩:=hb.form;obtain⟨As,gq,rfl⟩:=hs.s.form;have dh:ps.length=c.ah.length:=by rw[←fc,Qq]
 have jX:c.blocks.length=ps.length:=by rw[dh];exact hc.ok.len
 obtain⟨n,hn⟩:=eX ps.length;rw[jX,←hn] at hb pq cC;rw[jX,←hn];rw[←hn] at hs;cases ps with
 |nil=>rw[k1] at dh;simp at dh
 |cons p0 pr=>
 obtain⟨bb,ob,ug,oQ,-,-,bO,-⟩:=hb.cells (by rw[jX];simp);obtain rfl:Ab=some ⟨bb,ob,none⟩:=by injection oQ
 obtain⟨bs,os,ks,Na,iV,-,-,s2⟩:=hs.s.cells (k:=0) (p:=p0) rfl;obtain rfl:As=some ⟨bs,os,none⟩:=by injection Na
 rw[Xz,XC] at s2;have tA:p0.1=s1:=by have h1:=fc;rw[k1] at h1;exact(List.cons.inj h1).1
 have gY:pr.map Prod.fst=r1:=by have h1:=fc;rw[k1] at h1;exact(List.cons.inj h1).2
 have eE:=hs.s.es p0 (Qm ..);rw[tA] at eE;obtain⟨Ae,ce,hU,-,-⟩:=eE.1.1.form;obtain⟨ne,bT⟩:=eX s1.es.length;rw[←bT] at hU;have JN:=hs.e p0 (Qm ..);rw[hU] at s2 eE JN;obtain⟨ax,eo⟩:=eX c.ax;obtain⟨dep,eK⟩:=eX c.depth;obtain⟨er,pU⟩:=eX e.print;obtain⟨ek,mF⟩:=eX e.block;unfold jz;rw[←eo,←eK,←pU,←mF];have ei:=hn;have gZ:n=br.length+1:=by rw[hn,←jX,k2];rfl
 have AQ:=fZ (hc.ok.right s1 (by rw[k1];exact Qm ..));obtain⟨W0,aY,X0,B0⟩:=nW w [.int .i64 ax,.int .i64 dep,.slice (some ⟨bb,ob,none⟩) n fQ,.slice (some ⟨bs,os,none⟩) n gq] 50;have lz:W0.heap.size=w.heap.size+1:=by rw[aY];simp
 obtain⟨W1,aW,E1,B1⟩:=nW W0 [.int .u64 er,.int .u32 ek] 68;have fI:=B0.trans (B1.mono B0.size);have X1:=X0.on B1;obtain⟨eb,mR⟩:=eX (w.heap.size+1);rw[lz,←mR] at E1;have HW:=iJ aY.symm aW.symm mR.symm;have tl:=aa X1;have Yb:=aa E1;have wP:=aa fI;have EH:=aa ((fI.cell (XX s2)).trans s2);have wN:=aa (gA eE.1 fI);have wE:=iJ (dU hb fI) pq (hs.on fI);have HI:Af ((∀x,S x→x<w.heap.size)∧ur c∧n≤4096∧(ax=c.ax∧dep=c.depth∧er=e.print∧ek=e.block)∧tw e∧eR e∧c.ah=s1::r1∧c.blocks=b1::br∧c.first=s1.es∧p0.1=s1∧pr.map Prod.fst=r1∧n=pr.length+1∧n=br.length+1∧ne=s1.es.length∧s1.es.length≤9∧dV s1.es=true∧Ap S (.slice Ae ne ce)):=
  ⟨hS,hc,cC,⟨eo,eK,pU,mF⟩,he,MF,k1,k2,k5,tA,gY,ei,gZ,bT,AQ.1,AQ.2.1,JN⟩
 have N5:¬(ne:Int)<9:=by rw[k5,←bT] at pj;exact fun h=>pj (Xi.1 h)
 have jU:(0:Int)<n:=by rw[ei];exact Xi.2 (Nat.succ_pos _)
 have s2' :=EH.o;obtain⟨x0,x1,x2,x3⟩:=mm X1;obtain⟨e0,e1⟩:=gh E1;have EI:=iJ fc dh jX;clear pj;clear hS hc h cC he MF k1 k2 k3 k4 k5 hb pq hs fc dh jX hn oQ bO Na iV s2 tA gY eE hU bT JN eo eK pU mF ei gZ AQ aY X0 B0 lz aW E1 B1 fI X1 mR;go_enter func64,ntmps64;go_upto_region 1 with fail
 rw[HW.o.1,HW.o.2.1]
 try rw[HW.o.2.2]
 have JX:Af (Calls prog 138 #[.agg #[.int .i64 ax,.int .i64 dep,.slice (some ⟨bb,ob,none⟩) n fQ,.slice (some ⟨bs,os,none⟩) n gq],.int .u64 er] W1 fun r w' =>r= .returned (.bool true)∧Below W1.heap.size W1 w'):=by
  have h1:=wa W1 c (.agg #[.int .i64 ax,.int .i64 dep,.slice (some ⟨bb,ob,none⟩) n fQ,.slice (some ⟨bs,os,none⟩) n gq]) ⟨_,_,p0::pr,by rw[HI.o.2.2.2.1.1,HI.o.2.2.2.1.2.1],wE.o.1,wE.o.2.2.s,EI.o.1⟩ (by rw[←EI.o.2.1];have:=HI.o.2.2.1;have h2:=HI.o.2.2.2.2.2.2.2.2.2.2.2.1;rw[QF];omega) er (by rw[HI.o.2.2.2.1.2.2.1];exact HI.o.2.2.2.2.2.1.1) (fun a ha=>(HI.o.2.1.ent a ha).u);have h2:(c.all.all fun a=>bz a==(er/2^56).toNat)=true:=by rw[HI.o.2.2.2.1.2.2.1];exact Hal.o
  rw[h2] at h1;exact h1
 have HAh:Af (∀W,Below W1.heap.size W1 W→Calls prog 135 #[.int .i64 ax,.int .i64 dep,.slice (some ⟨W.heap.size,0,none⟩) 1 1,.slice (some ⟨bb,ob,none⟩) n fQ,.slice (some ⟨bs,os,none⟩) n gq] (W.alloc (.cells #[.int .u64 er,.int .u32 ek] 68)) fun r w' =>∃v,r= .returned v∧jw w' S v cv∧Below W.heap.size W w'):=fun W hW=>by
  have b1:=aF W (.cells #[.int .u64 er,.int .u32 ek] 68);have X:=ar W [.int .u64 er,.int .u32 ek] 68;have hw:=hW.trans (b1.mono hW.size);have TM :∀x,S x→x<W.heap.size:=fun x hx=>Qn (HI.o.1 x hx) (Qh wP.o.size hW.size)
  have hE:Es (W.alloc (.cells #[.int .u64 er,.int .u32 ek] 68)) (W.alloc (.cells #[.int .u64 er,.int .u32 ek] 68)).heap.size (.slice (some ⟨W.heap.size,0,none⟩) 1 1) [e]:=by
   refine⟨?_,fun x hx=>by rw[Qx] at hx;subst hx;exact HI.o.2.2.2.2.2.1⟩;have h2:([e]:List aD).flatMap dC=[.int .u64 er,.int .u32 ek]:=by rw[HI.o.2.2.2.1.2.2.1,HI.o.2.2.2.1.2.2.2];rfl
   rw[h2];exact X.sl (o:=0) (n:=1) (sz:=2) (c:=1) (by simp) (Qg _) (by unfold maxLen;decide)
  have h1:=pR _ S (fun x hx=>Qn (TM x hx) b1.size) ax dep [e] c.blocks (p0::pr) _ _ _ (by rw[HI.o.2.2.2.1.2.1];exact HI.o.2.1.ok.d8) hE (jD (fun h=>XI _ (TM _ h))) (show 1≤9 by decide)
   (dU wE.o.1 hw) wE.o.2.1 (wE.o.2.2.on hw) EI.o.2.2 (by rw[EI.o.2.2,QF,←HI.o.2.2.2.2.2.2.2.2.2.2.2.1];exact HI.o.2.2.1) HI.o.2.1.Ej
  rw[EI.o.1,HI.o.2.2.2.1.1,HI.o.2.2.2.1.2.1,←Hcv.o] at h1;rw[HI.o.2.2.2.1.1,HI.o.2.2.2.1.2.1];exact h1.mono fun r w' ⟨v,q1,q2,q3⟩=>⟨v,q1,q2,b1.trans (q3.mono b1.size)⟩
 go_upto_region 6 with(go_at_call 138;go_must(refine JX.o.mono ?_);rintro e W5 ⟨rfl,b5⟩;have B5:=aa b5;clear b5)
 have X5:=tl.o.on B5.o;have E5:=Yb.o.on B5.o;obtain⟨x0,x1⟩:=gh X5;obtain⟨e0,e1⟩:=gh E5;have bx:=aF W5 (.cells #[.int .u64 er,.int .u32 ek] 68);obtain⟨-,-,x2,x3⟩:=mm (X5.on bx);have an9:=aa (HAh.o W5 B5.o);clear X5 E5 bx;go_wp2_with(go_at_call 135;go_must(refine an9.o.mono ?_);rintro e W6 ⟨v6,rfl,c6,b6⟩;obtain⟨bv6,sv6,ps6,rfl,q1,q2,q3,q4⟩:=c6.ex;obtain⟨A6,d6,rfl,-,-⟩:=q1.form;obtain⟨As6,ds6,rfl⟩:=q3.s.form;have HC6:=aa (c6.apart (T:=fun x=>S x∨x=W6.heap.size) (fun x hx=>hx.imp id (fun h=>by rw[h];exact Qg _)));have HB6:=aa (B5.o.trans (b6.mono B5.o.size));clear q1 q2 q3 q4 c6 b6)
 try rw[Qv]
 go_ret;have b6:=aF W6 (.cells #[.int .i64 cv.ax,.int .i64 cv.depth,.slice A6 cv.blocks.length d6,.slice As6 ps6.length ds6] 50);have hB:=wP.o.trans (HB6.o.mono wP.o.size);exact⟨_,rfl,nG (ar W6 [.int .i64 cv.ax,.int .i64 cv.depth,.slice A6 cv.blocks.length d6,.slice As6 ps6.length ds6] _) (HC6.o.on b6) hB.size,hB.trans (b6.mono hB.size)⟩
end
end Go.Proofs.YthgdhacopamklaaGreat

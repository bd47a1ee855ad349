/- What HashNone asks, part 26 of 41: parts of the walks and laws, each true as it stands. -/
import Derived.Test.YthgdhacopamklaaGreatTAY
set_option maxHeartbeats 16000000
set_option maxRecDepth 100000
set_option linter.unusedVariables false
set_option linter.unusedSimpArgs false
namespace Go.Proofs.YthgdhacopamklaaGreat
open Go.Proofs.Tryz
section
open Go.RowKit
attribute [local go_sem] Oper.semAt_some
theorem Ij (w:Wo) (S:Nat→Prop) (hS:∀x,S x→x<w.heap.size) (c:ak) (hc:ur c) (v:Va) (h:jw w S v c) (cC:c.blocks.length≤4096) (e:aD) (he:tw e) (MF:eR e) (pj:¬c.first.length<9) (EC:rH c e=false) (qc:c.depth<8) (hit:bY c.ax c.depth (bz e)=true) (k:Nat) (hk:9≤c.depth+(k+1)) (ZS:k≤100)
  (IH:∀(w:Wo) (S:Nat→Prop),(∀x,S x→x<w.heap.size)→∀(c:ak),ur c→∀(v:Va),jw w S v c→c.blocks.length≤4096→9≤c.depth+k→bY c.ax c.depth (bz e)=true→Calls prog 64 #[v,jz e] w fun r w' =>∃v',r= .returned v'∧eN w' S w.heap.size v' (cP k c e)∧Below w.heap.size w w'):
  Calls prog 64 #[v,jz e] w fun r w' =>∃v',r= .returned v'∧eN w' S w.heap.size v' (if bY (dQ c).ax (dQ c).depth (bz e) then cP k (dQ c) e++[dd c] else dQ c::cP k (dd c) e)∧Below w.heap.size w w' :=by
 have Hal:=aa EC;have HIH:=aa IH;have Hk:=kH hk ZS hit qc;have Hch:=aa h;obtain⟨lv,hlv⟩:=eX (dQ c);obtain⟨rv,ZG⟩:=eX (dd c);obtain⟨fr2,TF⟩:=eX (bY lv.ax lv.depth (bz e));rw[←hlv,←ZG,←TF];have HLR:=iJ hlv ZG TF;clear EC IH hk ZS hit qc hlv ZG TF;obtain⟨s1,r1,b1,br,k1,k2,k3,k4,k5⟩:=hc.cons;obtain⟨bv,sv,ps,rfl,hb,pq,hs,fc⟩:=h.ex;obtain⟨Ab,fQ,rfl,-,-⟩:=hb.form;obtain⟨As,gq,rfl⟩:=hs.s.form;have dh:ps.length=c.ah.length:=by rw[←fc,Qq]
 have jX:c.blocks.length=ps.length:=by rw[dh];exact hc.ok.len
 obtain⟨n,hn⟩:=eX ps.length;rw[jX,←hn] at hb pq cC;rw[jX,←hn];rw[←hn] at hs
 cases ps with
 |nil=>rw[k1] at dh;simp at dh
 |cons p0 pr=>
 obtain⟨bb,ob,ug,oQ,-,-,bO,-⟩:=hb.cells (by rw[jX];simp)
 obtain rfl:Ab=some ⟨bb,ob,none⟩:=by injection oQ
 obtain⟨bs,os,ks,Na,iV,-,-,s2⟩:=hs.s.cells (k:=0) (p:=p0) rfl;obtain rfl:As=some ⟨bs,os,none⟩:=by injection Na
 rw[Xz,XC] at s2;have tA:p0.1=s1:=by have h1:=fc;rw[k1] at h1;exact(List.cons.inj h1).1
 have gY:pr.map Prod.fst=r1:=by have h1:=fc;rw[k1] at h1;exact(List.cons.inj h1).2
 have eE:=hs.s.es p0 (Qm ..);rw[tA] at eE;obtain⟨Ae,ce,hU,-,-⟩:=eE.1.1.form;obtain⟨ne,bT⟩:=eX s1.es.length;rw[←bT] at hU;have JN:=hs.e p0 (Qm ..);rw[hU] at s2 eE JN;obtain⟨ax,eo⟩:=eX c.ax;obtain⟨dep,eK⟩:=eX c.depth;obtain⟨er,pU⟩:=eX e.print;obtain⟨ek,mF⟩:=eX e.block;unfold jz;rw[←eo,←eK,←pU,←mF];have ei:=hn;have gZ:n=br.length+1:=by rw[hn,←jX,k2];rfl
 have AQ:=fZ (hc.ok.right s1 (by rw[k1];exact Qm ..))
 obtain⟨W0,aY,X0,B0⟩:=nW w [.int .i64 ax,.int .i64 dep,.slice (some ⟨bb,ob,none⟩) n fQ,.slice (some ⟨bs,os,none⟩) n gq] 50;have lz:W0.heap.size=w.heap.size+1:=by rw[aY];simp
 obtain⟨W1,aW,E1,B1⟩:=nW W0 [.int .u64 er,.int .u32 ek] 68;have fI:=B0.trans (B1.mono B0.size);have X1:=X0.on B1;obtain⟨eb,mR⟩:=eX (w.heap.size+1);rw[lz,←mR] at E1;have HW:=iJ aY.symm aW.symm mR.symm;have tl:=aa X1;have Yb:=aa E1;have wP:=aa fI;have EH:=aa ((fI.cell (XX s2)).trans s2);have wN:=aa (gA eE.1 fI);have wE:=iJ (dU hb fI) pq (hs.on fI);have HI:Af ((∀x,S x→x<w.heap.size)∧ur c∧n≤4096∧(ax=c.ax∧dep=c.depth∧er=e.print∧ek=e.block)∧tw e∧eR e∧c.ah=s1::r1∧c.blocks=b1::br∧c.first=s1.es∧p0.1=s1∧pr.map Prod.fst=r1∧n=pr.length+1∧n=br.length+1∧ne=s1.es.length∧s1.es.length≤9∧dV s1.es=true∧Ap S (.slice Ae ne ce)):=
  ⟨hS,hc,cC,⟨eo,eK,pU,mF⟩,he,MF,k1,k2,k5,tA,gY,ei,gZ,bT,AQ.1,AQ.2.1,JN⟩
 have N5:¬(ne:Int)<9:=by rw[k5,←bT] at pj;exact fun h=>pj (Xi.1 h)
 have jU:(0:Int)<n:=by rw[ei];exact Xi.2 (Nat.succ_pos _)
 have s2' :=EH.o;obtain⟨x0,x1,x2,x3⟩:=mm X1;obtain⟨e0,e1⟩:=gh E1;have EI:=iJ fc dh jX;clear pj Hch;clear hS hc h cC he MF k1 k2 k3 k4 k5 hb pq hs fc dh jX hn oQ bO Na iV s2 tA gY eE hU bT JN eo eK pU mF ei gZ AQ aY X0 B0 lz aW E1 B1 fI X1 mR;go_enter func64,ntmps64;go_upto_region 1 with fail
 rw[HW.o.1,HW.o.2.1]
 try rw[HW.o.2.2]
 have JX:Af (Calls prog 138 #[.agg #[.int .i64 ax,.int .i64 dep,.slice (some ⟨bb,ob,none⟩) n fQ,.slice (some ⟨bs,os,none⟩) n gq],.int .u64 er] W1 fun r w' =>r= .returned (.bool false)∧Below W1.heap.size W1 w'):=by
  have h1:=wa W1 c (.agg #[.int .i64 ax,.int .i64 dep,.slice (some ⟨bb,ob,none⟩) n fQ,.slice (some ⟨bs,os,none⟩) n gq]) ⟨_,_,p0::pr,by rw[HI.o.2.2.2.1.1,HI.o.2.2.2.1.2.1],wE.o.1,wE.o.2.2.s,EI.o.1⟩ (by rw[←EI.o.2.1];have:=HI.o.2.2.1;have h2:=HI.o.2.2.2.2.2.2.2.2.2.2.2.1;rw[QF];omega) er (by rw[HI.o.2.2.2.1.2.2.1];exact HI.o.2.2.2.2.2.1.1) (fun a ha=>(HI.o.2.1.ent a ha).u)
  have h2:(c.all.all fun a=>bz a==(er/2^56).toNat)=false:=by rw[HI.o.2.2.2.1.2.2.1];exact Hal.o
  rw[h2] at h1;exact h1
 go_upto_region 7 with(go_at_call 138;go_must(refine JX.o.mono ?_);rintro e W5 ⟨rfl,b5⟩;have B5:=aa b5;clear b5)
 have X5:=tl.o.on B5.o;obtain⟨x0,x1,x2,x3⟩:=mm X5;have HSp:Af (Calls prog 139 #[.agg #[.int .i64 ax,.int .i64 dep,.slice (some ⟨bb,ob,none⟩) n fQ,.slice (some ⟨bs,os,none⟩) n gq]] W5 fun r w' =>∃v1 v2,r= .returned (.tuple #[v1,v2])∧jw w' S v1 lv∧jw w' S v2 rv∧Below W5.heap.size W5 w'):=by
  rw[HLR.o.1,HLR.o.2.1];exact FA W5 S (fun x hx=>Qn (HI.o.1 x hx) (Qh wP.o.size B5.o.size)) c HI.o.2.1 Hk.o.2.2.2 _ ⟨_,_,p0::pr,by rw[HI.o.2.2.2.1.1,HI.o.2.2.2.1.2.1],dU wE.o.1 B5.o,wE.o.2.1,wE.o.2.2.on B5.o,EI.o.1⟩ (by rw[EI.o.2.2,QF,←HI.o.2.2.2.2.2.2.2.2.2.2.2.1];exact HI.o.2.2.1)
 clear X5;go_upto_region 8 with(go_at_call 139;go_must(refine HSp.o.mono ?_);rintro e W7 ⟨v1,v2,rfl,c1,c2,b7⟩;obtain⟨bv1,sv1,Tn,rfl,q1,q2,q3,q4⟩:=c1.ex;obtain⟨A1,d1,rfl,-,-⟩:=q1.form;obtain⟨Uv,SY,rfl⟩:=q3.s.form;obtain⟨bv2,sv2,ps2,rfl,q1',q2',q3',q4'⟩:=c2.ex;obtain⟨A2,d2,rfl,-,-⟩:=q1'.form;obtain⟨As2,ds2,rfl⟩:=q3'.s.form;have su:=aa c1;have HC2:=aa c2;have HB7:=aa (B5.o.trans (b7.mono B5.o.size));clear c1 c2 q1 q2 q3 q4 q1' q2' q3' q4' b7)
 obtain⟨W8,hW8,L8,b8⟩:=nW W7 [.int .i64 lv.ax,.int .i64 lv.depth,.slice A1 lv.blocks.length d1,.slice Uv Tn.length SY] 50;have hs8:W8.heap.size=W7.heap.size+1:=by rw[hW8];simp
 obtain⟨W9,ED,R9,b9⟩:=nW W8 [.int .i64 rv.ax,.int .i64 rv.depth,.slice A2 rv.blocks.length d2,.slice As2 ps2.length ds2] 50;have b79:=b8.trans (b9.mono b8.size);have L9:=L8.on b9;rw[hs8] at R9;rw[←hW8,←ED];obtain⟨lb,hlb⟩:=eX (W7.heap.size+0);obtain⟨rb,ft⟩:=eX (W7.heap.size+1);rw[XC] at hlb;rw[←hlb] at L9;rw[←ft] at R9;rw[←ft,←hlb];have AK:=aa (wP.o.trans ((HB7.o.trans (b79.mono HB7.o.size)).mono wP.o.size));have NN:=aa L9;have WV:=aa R9;have HE9:=aa ((Yb.o.on HB7.o).on b79);have Ou :=aa (su.o.on b79);have Ot :=aa (HC2.o.on b79);have IE:Af (ur lv∧ur rv∧lv.depth=c.depth+1∧rv.depth=c.depth+1∧lv.blocks.length≤4096∧rv.blocks.length≤4096∧(fr2=true→bY lv.ax lv.depth (bz e)=true)∧(fr2=false→bY rv.ax rv.depth (bz e)=true)):=by
  have sm:c.blocks.length≤4096:=by rw[EI.o.2.2,QF,←HI.o.2.2.2.2.2.2.2.2.2.2.2.1];exact HI.o.2.2.1
  have hl:=uX HI.o.2.1 Hk.o.2.2.2 (ax:=c.ax) (Or.inl rfl);have hr:=uX HI.o.2.1 Hk.o.2.2.2 (ax:=c.ax+dj c) (Or.inr rfl);have h3:=Ce Hk.o.2.2.2 HI.o.2.1.ok.f256 HI.o.2.1.ok.mod Hk.o.2.2.1;rw[HLR.o.2.2,HLR.o.1,HLR.o.2.1];unfold dQ dd;refine⟨Jb HI.o.2.1 Hk.o.2.2.2 (Or.inl rfl),Jb HI.o.2.1 Hk.o.2.2.2 (Or.inr rfl),hl.2.2,hr.2.2,Qh (Cd HI.o.2.1 _ _) sm,Qh (Cd HI.o.2.1 _ _) sm,fun h=>h,fun h=> ?_⟩;rw[hl.2.1,hl.2.2] at h;rw[hr.2.1,hr.2.2];refine h3.2.2 ?_;rcases Nat.mod_two_eq_zero_or_one (bz e/2^(7 - c.depth)) with hx|hx
  ·have:=h3.1.2 hx
   rw[h] at this
   cases this
  ·exact hx
 obtain⟨nb,gZ⟩:=eX (bz e);have pU:er/2^56=(nb:Int):=by
  have h1:=HI.o.2.2.2.2.1.u.1;rw[gZ,HI.o.2.2.2.1.2.2.1];unfold bz;exact(Xp (Int.ediv_nonneg h1 (by decide))).symm
 have agm:nb<256:=by
  have h1:=HI.o.2.2.2.2.1.u;rw[gZ];unfold bz;unfold bI at h1;omega
 have HBg:Af (∀W,Calls prog 141 #[.int .u64 er] W fun r w' =>r= .returned (.int .i64 nb)∧Below W.heap.size W w'):=fun W=>by
  have h1:=lr W er (by rw[HI.o.2.2.2.1.2.2.1];exact HI.o.2.2.2.2.1.u)
  rw[pU] at h1;exact h1.mono fun r w' ⟨q1,q2⟩=>⟨q1,by rw[←q2];exact Xj _ _⟩
 have XY:Af (∀W,Calls prog 140 #[.agg #[.int .i64 lv.ax,.int .i64 lv.depth,.slice A1 lv.blocks.length d1,.slice Uv Tn.length SY],.int .i64 nb] W fun r w' =>r= .returned (.bool fr2)∧Below W.heap.size W w'):=fun W=>by
  have h1:=tV W lv.ax lv.depth nb IE.o.1.ok.f256 IE.o.1.ok.d8 agm (.slice A1 lv.blocks.length d1) (.slice Uv Tn.length SY);rw[gZ,←HLR.o.2.2] at h1;rw[gZ];exact h1
 clear pU gZ agm hW8 L8 b8 hs8 ED R9 b9 b79 L9 hlb ft x0 x1 x2 x3 su HC2 tl Yb HB7 B5;go_cut [69] from 65 to 69 (fun v W=>v= .bool fr2∧Af (Below W9.heap.size W9 W))
 case first=>
  have tE:=below_drewN (Xj W9.heap.size W9) 1;obtain⟨Wd,dJ⟩:=eX W9.drew;have Hd9:Af (Below W9.heap.size W9 Wd):=by rw[dJ];exact tE
  obtain⟨z0,z1,z2,z3⟩:=mm (NN.o.on Hd9.o);have e0:=(HE9.o.on Hd9.o).cell (j:=0) rfl;have L:Lw Wd Wd:=⟨Xj _ _⟩;clear tE HIH Ou Ot HSp JX wE EI IE;refine bL (fun j=>[].contains j) (fun W=>Below Wd.heap.size Wd W) (by kernel_rfl) ?_;rw[←dJ];clear dJ;refine tK 0 65 (.agg #[.int .i64 lv.ax,.int .i64 lv.depth,.slice A1 lv.blocks.length d1,.slice Uv Tn.length SY]) rfl rfl rfl (by kernel_rfl) (fun _ _ _ h=>h) (fun W hW=>by have oI:=(hW.cell (XX z0)).trans z0;have mM:=(hW.cell (XX z1)).trans z1;have xw:=(hW.cell (XX z2)).trans z2;have hz3:=(hW.cell (XX z3)).trans z3;go_simp) L.b ?_
  try simp only[Act.put,Qb,Qc,Qd]
  refine tK 1 66 (.pointer (some ⟨eb,0,none⟩)) rfl rfl rfl (by kernel_rfl) (fun _ _ _ h=>h) (fun W hW=>by go_simp) L.b ?_
  try simp only[Act.put,Qb,Qc,Qd]
  refine tK 2 67 (.int .u64 er) rfl rfl rfl (by kernel_rfl) (fun _ _ _ h=>h) (fun W hW=>by have hx:=(hW.cell (XX e0)).trans e0;go_simp) L.b ?_
  try simp only[Act.put,Qb,Qc,Qd]
  refine ju 3 rfl (by kernel_rfl) fun K hK=> ?_
  go_simp;go_at_call 141;refine Calls.mono (HBg.o Wd) ?_;rintro e V3 ⟨rfl,b3⟩;have L:=L.on b3;go_simp;refine hK.out _ _ (fun _=>L.b) ?_;clear hK K
  try simp only[Act.put,Qb,Qc,Qd]
  refine ju 4 rfl (by kernel_rfl) fun K hK=> ?_
  go_simp;go_at_call 140;refine Calls.mono (XY.o V3) ?_;rintro e V4 ⟨rfl,b4⟩;have L:=L.on b4;go_simp;refine hK.out _ _ (fun _=>L.b) ?_;clear hK K
  try simp only[Act.put,Qb,Qc,Qd]
  refine bD (by kernel_rfl) ?_ _;go_wp2_with fail;go_meet;exact⟨rfl,Hd9.o.trans (L.b.mono Hd9.o.size)⟩
 case rest=>
  obtain⟨rfl,oU⟩:=hcut;have abE:Af (∀(w:Wo) (S:Nat→Prop),(∀x,S x→x<w.heap.size)→∀(c:ak),ur c→∀(v:Va),jw w S v c→c.blocks.length≤4096→9≤c.depth+k→bY c.ax c.depth (bz e)=true→Calls prog 64 #[v,.agg #[.int .u64 er,.int .u32 ek]] w fun r w' =>∃v',r= .returned v'∧eN w' S w.heap.size v' (cP k c e)∧Below w.heap.size w w'):=by
   have h1:=HIH.o;unfold jz at h1;rw[←HI.o.2.2.2.1.2.2.1,←HI.o.2.2.2.1.2.2.2] at h1;exact h1
  have Ee:9≤c.depth+1+k:=by have:=Hk.o.1;omega
  have HK9:Af (9≤lv.depth+k∧9≤rv.depth+k):=⟨by rw[IE.o.2.2.1];exact Ee,by rw[IE.o.2.2.2.1];exact Ee⟩
  clear Ee HIH HSp JX HBg XY;obtain⟨avW,YJ⟩:=eX fr2;have Hb:=aa YJ;clear YJ;have hs9:∀x,S x→x<W9.heap.size:=fun x hx=>Qn (HI.o.1 x hx) AK.o.size
  have HS9:=aa hs9;clear hs9;have tE:=oU.o.drew
  cases fr2 with
  |true=>
   go_upto_region 9 with fail
   obtain⟨Wd,dJ⟩:=eX wc.drew;rw[←dJ] at tE;have Hd9:=aa tE;obtain⟨z0,z1,z2,z3⟩:=mm (NN.o.on tE);obtain⟨y0,y1,y2,y3⟩:=mm (WV.o.on tE);obtain⟨e0,e1⟩:=gh (HE9.o.on tE);have HSd:Af (∀x,S x→x<Wd.heap.size):=fun x hx=>Qn (HS9.o x hx) tE.size
   have CL:=(Ou.o.on tE).apart (fun x hx=>hx);have CR:=(Ot.o.on tE).apart (fun x hx=>hx);have xF:=aa (AK.o.trans (tE.mono AK.o.size));have L:Lw Wd Wd:=⟨Xj _ _⟩;clear tE Ou Ot;refine bL (fun j=>[].contains j) (fun W=>Below Wd.heap.size Wd W) (by kernel_rfl) ?_;rw[←dJ];clear dJ;refine tK 0 70 (.agg #[.int .i64 lv.ax,.int .i64 lv.depth,.slice A1 lv.blocks.length d1,.slice Uv Tn.length SY]) rfl rfl rfl (by kernel_rfl) (fun _ _ _ h=>h) (fun W hW=>by have oI:=(hW.cell (XX z0)).trans z0;have mM:=(hW.cell (XX z1)).trans z1;have xw:=(hW.cell (XX z2)).trans z2;have hz3:=(hW.cell (XX z3)).trans z3;go_simp) L.b ?_
   try simp only[Act.put,Qb,Qc,Qd]
   refine tK 1 71 (.agg #[.int .u64 er,.int .u32 ek]) rfl rfl rfl (by kernel_rfl) (fun _ _ _ h=>h) (fun W hW=>by have hx:=(hW.cell (XX e0)).trans e0;have hy:=(hW.cell (XX e1)).trans e1;go_simp) L.b ?_
   try simp only[Act.put,Qb,Qc,Qd]
   refine tK 3 73 (.agg #[.int .i64 rv.ax,.int .i64 rv.depth,.slice A2 rv.blocks.length d2,.slice As2 ps2.length ds2]) rfl rfl rfl (by kernel_rfl) (fun _ _ _ h=>h) (fun W hW=>by have hy0:=(hW.cell (XX y0)).trans y0;have Tr:=(hW.cell (XX y1)).trans y1;have hy2:=(hW.cell (XX y2)).trans y2;have hy3:=(hW.cell (XX y3)).trans y3;go_simp) L.b ?_
   try simp only[Act.put,Qb,Qc,Qd]
   refine gR [2] [4] (fun a0 i j a W=>∃x72 x74,a=(a0.put (some 72) x72).put (some 74) x74∧Lw Wd W∧jw W (fun x=>S x∨Wd.heap.size≤x) (.agg #[.int .i64 lv.ax,.int .i64 lv.depth,.slice A1 lv.blocks.length d1,.slice Uv Tn.length SY]) lv∧jw W (fun x=>S x∨Wd.heap.size≤x) (.agg #[.int .i64 rv.ax,.int .i64 rv.depth,.slice A2 rv.blocks.length d2,.slice As2 ps2.length ds2]) rv∧(1≤i→eN W S Wd.heap.size x72 (cP k lv e))∧(1≤j→∃g,x74= .slice (some ⟨g,0,none⟩) 1 1∧Wd.heap.size≤g∧aq W g 50 [.int .i64 rv.ax,.int .i64 rv.depth,.slice A2 rv.blocks.length d2,.slice As2 ps2.length ds2])) 2 rfl (by kernel_rfl) ⟨_,_,Ux (by rfl),L,CL,CR,fun h=>absurd h (by decide),fun h=>absurd h (by decide)⟩ ⟨?_,trivial⟩ ⟨?_,trivial⟩ ?_
   all_goals clear L CL CR
   ·rintro j a W ⟨x72,x74,rfl,L,CL,CR,-,HB⟩
    refine bJ rfl (fun K hK=> ?_);simp only[Act.put,Qb,Qc,Qd];go_simp;go_at_call 64;refine Calls.mono (abE.o W S (fun x hx=>Qn (HSd.o x hx) L.b.size) lv IE.o.1 _ (CL.mono (fun x hx=>Or.inl hx)) IE.o.2.2.2.2.1 HK9.o.1 (IE.o.2.2.2.2.2.2.1 rfl)) ?_;rintro e V2 ⟨v2,rfl,o2,b2⟩;go_simp;exact hK.out _ _ ⟨fun _=>(L.on b2).b,_,x74,rfl,L.on b2,CL.on b2,CR.on b2,fun _=>o2.low L.b.size,fun h=>(HB h).imp fun g hg=>⟨hg.1,hg.2.1,hg.2.2.on b2⟩⟩
   ·rintro i a W ⟨x72,x74,rfl,L,CL,CR,HA,-⟩
    refine bJ rfl (fun K hK=> ?_);obtain⟨V,hV,X,b⟩:=nW W [.int .i64 rv.ax,.int .i64 rv.depth,.slice A2 rv.blocks.length d2,.slice As2 ps2.length ds2] 50;simp only[Act.put,Qb,Qc,Qd];go_simp;rw[←hV];exact hK.out _ _ ⟨fun _=>(L.on b).b,x72,_,rfl,L.on b,CL.on b,CR.on b,fun h=>(HA h).on b,fun _=>⟨_,rfl,L.b.size,X⟩⟩
   ·rintro a V ⟨v2,x74,rfl,L,CL,CR,HA,HB⟩
    have O2:=HA (Qg _);obtain⟨g,rfl,hg,X4⟩:=HB (Qg _);have HX:=nG (S:=nA S v2) (base:=0) X4 (CR.mono (fun x hx=>by
     rcases hx with(hx|hx)|hx
     ·exact Or.inl hx
     ·exact Or.inr (O2.own x hx).1
     ·exact Or.inr (by rw[hx];exact hg))) (Qp _)
    obtain⟨v5,V5,NW,O5,g5⟩:=uZ V S Wd.heap.size v2 _ O2 _ 0 [rv] HX (by have:=gX k lv e;have:=Hk.o.2.1;show _+1≤_;omega) L.b.size 45
    have L:=Lw.mk (L.b.grown g5 L.b.size (fun k hk=>(O2.own k hk).1));clear HX HA HB;simp only[Act.put,Qb,Qc,Qd];refine ju 5 rfl (by kernel_rfl) fun K hK=> ?_
    refine gM (some 75) rfl (by rfl) (ea rfl rfl NW) ?_;refine hK.out _ _ (fun _=>L.b) ?_;clear hK K
    try simp only[Act.put,Qb,Qc,Qd]
    refine ju 6 rfl (by kernel_rfl) fun K hK=> ?_
    go_simp;refine hK.out _ _ (fun _=>L.b) ?_;clear hK K
    try simp only[Act.put,Qb,Qc,Qd]
    refine bD (by kernel_rfl) ?_ _;go_wp2_with fail
    try rw[Qv]
    go_ret;exact⟨_,rfl,O5.low xF.o.size,xF.o.trans (L.b.mono xF.o.size)⟩
  |false=>
   go_upto_region 10 with fail
   obtain⟨Wd,dJ⟩:=eX wc.drew;rw[←dJ] at tE;have Hd9:=aa tE;obtain⟨z0,z1,z2,z3⟩:=mm (NN.o.on tE);obtain⟨y0,y1,y2,y3⟩:=mm (WV.o.on tE);obtain⟨e0,e1⟩:=gh (HE9.o.on tE);have HSd:Af (∀x,S x→x<Wd.heap.size):=fun x hx=>Qn (HS9.o x hx) tE.size
   have CL:=(Ou.o.on tE).apart (fun x hx=>hx);have CR:=(Ot.o.on tE).apart (fun x hx=>hx);have xF:=aa (AK.o.trans (tE.mono AK.o.size));have L:Lw Wd Wd:=⟨Xj _ _⟩;clear tE Ou Ot;refine bL (fun j=>[].contains j) (fun W=>Below Wd.heap.size Wd W) (by kernel_rfl) ?_;rw[←dJ];clear dJ;refine tK 0 76 (.agg #[.int .i64 lv.ax,.int .i64 lv.depth,.slice A1 lv.blocks.length d1,.slice Uv Tn.length SY]) rfl rfl rfl (by kernel_rfl) (fun _ _ _ h=>h) (fun W hW=>by have oI:=(hW.cell (XX z0)).trans z0;have mM:=(hW.cell (XX z1)).trans z1;have xw:=(hW.cell (XX z2)).trans z2;have hz3:=(hW.cell (XX z3)).trans z3;go_simp) L.b ?_
   try simp only[Act.put,Qb,Qc,Qd]
   refine tK 2 78 (.agg #[.int .i64 rv.ax,.int .i64 rv.depth,.slice A2 rv.blocks.length d2,.slice As2 ps2.length ds2]) rfl rfl rfl (by kernel_rfl) (fun _ _ _ h=>h) (fun W hW=>by have hy0:=(hW.cell (XX y0)).trans y0;have Tr:=(hW.cell (XX y1)).trans y1;have hy2:=(hW.cell (XX y2)).trans y2;have hy3:=(hW.cell (XX y3)).trans y3;go_simp) L.b ?_
   try simp only[Act.put,Qb,Qc,Qd]
   refine tK 3 79 (.agg #[.int .u64 er,.int .u32 ek]) rfl rfl rfl (by kernel_rfl) (fun _ _ _ h=>h) (fun W hW=>by have hx:=(hW.cell (XX e0)).trans e0;have hy:=(hW.cell (XX e1)).trans e1;go_simp) L.b ?_
   try simp only[Act.put,Qb,Qc,Qd]
   refine ma (rs:=[1,4]) (by kernel_rfl) (by simp) ?_;refine cT.cons rfl (fun K hK=> ?_) (cT.cons rfl (fun K hK=> ?_) cT.nil)
   ·skip
    obtain⟨V1,hV1,X1,b1⟩:=nW Wd [.int .i64 lv.ax,.int .i64 lv.depth,.slice A1 lv.blocks.length d1,.slice Uv Tn.length SY] 50;have L:=L.on b1;have CL:=CL.on b1;have CR:=CR.on b1;go_simp;rw[←hV1];clear hV1;refine hK.out _ _ (fun _=>L.b) ?_;clear hK K
    try simp only[Act.put,Qb,Qc,Qd]
    refine ju 4 rfl (by kernel_rfl) fun K hK=> ?_
    try have xx:=aa X1.lt
    obtain⟨Nw,hNw⟩:=eX V1.heap.size;have HNw:=aa hNw;clear hNw;go_simp;go_at_call 64;refine Calls.mono (abE.o V1 (fun x=>S x∨(Wd.heap.size≤x∧x<Nw)) (fun x hx=>by rcases hx with hx|hx;exact Qn (HSd.o x hx) L.b.size;rw[←HNw.o];exact hx.2) rv IE.o.2.1 _ (CR.mono (fun x hx=>hx.imp id And.left)) IE.o.2.2.2.2.2.1 HK9.o.2 (IE.o.2.2.2.2.2.2.2 rfl)) ?_
    rintro e V4 ⟨v4,rfl,o4,b4⟩;have O4:eN V4 (fun x=>S x∨(Wd.heap.size≤x∧(x<Nw∨V4.heap.size≤x))) 0 v4 (cP k rv e):=(o4.low (Qp _)).apart (fun x hx=>by
     rcases hx with hx|⟨h1,h2|h2⟩
     ·exact Or.inl (Or.inl hx)
     ·exact Or.inl (Or.inr ⟨h1,h2⟩)
     ·exact Or.inr h2)
    have EZ:=aa (Qh L.b.size b4.size);clear o4;have L:=L.on b4;have CL:=CL.on b4;have CR:=CR.on b4;have X1:=X1.on b4;go_simp;refine hK.out _ _ (fun _=>L.b) ?_;clear hK K
    try simp only[Act.put,Qb,Qc,Qd]
    refine ju 5 rfl (by kernel_rfl) fun K hK=> ?_
    have HX:=nG (S:=S) (base:=Wd.heap.size) X1 (CL.mono (fun x hx=>hx.imp id (fun h=>by rw[h];first|exact Qg _|exact EZ.o))) (by first|exact Qg _|exact EZ.o)
    have HY:eN V4 (nA S (.slice (some ⟨Wd.heap.size,0,none⟩) 1 1)) 0 v4 (cP k rv e):=O4.mono (fun x hx=>by
     rcases hx with hx|hx
     ·exact Or.inl hx
     ·rw[←Qr hx]
      first|exact Or.inr ⟨Qg _,Or.inl (by rw[HNw.o];exact xx.o)⟩|exact Or.inr ⟨EZ.o,Or.inr (Qg _)⟩)
    obtain⟨v5,V5,NW,O5,g5⟩:=uZ V4 S Wd.heap.size (.slice (some ⟨Wd.heap.size,0,none⟩) 1 1) _ HX _ 0 _ HY (by have:=gX k rv e;have:=Hk.o.2.1;show 1+_≤_;omega) L.b.size 45
    have L:=Lw.mk (L.b.grown g5 L.b.size (fun k hk=>(HX.own k hk).1));clear HX HY;refine gM (some 81) rfl (by rfl) (ea rfl rfl NW) ?_;refine hK.out _ _ (fun _=>L.b) ?_;clear hK K
    try simp only[Act.put,Qb,Qc,Qd]
    refine ju 6 rfl (by kernel_rfl) fun K hK=> ?_
    go_simp;refine hK.out _ _ (fun _=>L.b) ?_;clear hK K
    try simp only[Act.put,Qb,Qc,Qd]
    refine bD (by kernel_rfl) ?_ _;go_wp2_with fail
    try rw[Qv]
    go_ret;exact⟨_,rfl,O5.low xF.o.size,xF.o.trans (L.b.mono xF.o.size)⟩
   ·skip
    try have xx:=aa X1.lt
    obtain⟨Nw,hNw⟩:=eX Wd.heap.size;have HNw:=aa hNw;clear hNw;go_simp;go_at_call 64;refine Calls.mono (abE.o Wd (fun x=>S x∨(Wd.heap.size≤x∧x<Nw)) (fun x hx=>by rcases hx with hx|hx;exact Qn (HSd.o x hx) L.b.size;rw[←HNw.o];exact hx.2) rv IE.o.2.1 _ (CR.mono (fun x hx=>hx.imp id And.left)) IE.o.2.2.2.2.2.1 HK9.o.2 (IE.o.2.2.2.2.2.2.2 rfl)) ?_
    rintro e V4 ⟨v4,rfl,o4,b4⟩;have O4:eN V4 (fun x=>S x∨(Wd.heap.size≤x∧(x<Nw∨V4.heap.size≤x))) 0 v4 (cP k rv e):=(o4.low (Qp _)).apart (fun x hx=>by
     rcases hx with hx|⟨h1,h2|h2⟩
     ·exact Or.inl (Or.inl hx)
     ·exact Or.inl (Or.inr ⟨h1,h2⟩)
     ·exact Or.inr h2)
    have EZ:=aa (Qh L.b.size b4.size);clear o4;have L:=L.on b4;have CL:=CL.on b4;have CR:=CR.on b4;go_simp;refine hK.out _ _ (fun _=>L.b) ?_;clear hK K
    try simp only[Act.put,Qb,Qc,Qd]
    refine ju 1 rfl (by kernel_rfl) fun K hK=> ?_
    obtain⟨V1,hV1,X1,b1⟩:=nW V4 [.int .i64 lv.ax,.int .i64 lv.depth,.slice A1 lv.blocks.length d1,.slice Uv Tn.length SY] 50;have L:=L.on b1;have CL:=CL.on b1;have CR:=CR.on b1;have O4:=O4.on b1;go_simp;rw[←hV1];clear hV1;refine hK.out _ _ (fun _=>L.b) ?_;clear hK K
    try simp only[Act.put,Qb,Qc,Qd]
    refine ju 5 rfl (by kernel_rfl) fun K hK=> ?_
    have HX:=nG (S:=S) (base:=Wd.heap.size) X1 (CL.mono (fun x hx=>hx.imp id (fun h=>by rw[h];first|exact Qg _|exact EZ.o))) (by first|exact Qg _|exact EZ.o)
    have HY:eN V1 (nA S (.slice (some ⟨V4.heap.size,0,none⟩) 1 1)) 0 v4 (cP k rv e):=O4.mono (fun x hx=>by
     rcases hx with hx|hx
     ·exact Or.inl hx
     ·rw[←Qr hx]
      first|exact Or.inr ⟨Qg _,Or.inl (by rw[HNw.o];exact xx.o)⟩|exact Or.inr ⟨EZ.o,Or.inr (Qg _)⟩)
    obtain⟨v5,V5,NW,O5,g5⟩:=uZ V1 S Wd.heap.size (.slice (some ⟨V4.heap.size,0,none⟩) 1 1) _ HX _ 0 _ HY (by have:=gX k rv e;have:=Hk.o.2.1;show 1+_≤_;omega) L.b.size 45
    have L:=Lw.mk (L.b.grown g5 L.b.size (fun k hk=>(HX.own k hk).1));clear HX HY;refine gM (some 81) rfl (by rfl) (ea rfl rfl NW) ?_;refine hK.out _ _ (fun _=>L.b) ?_;clear hK K
    try simp only[Act.put,Qb,Qc,Qd]
    refine ju 6 rfl (by kernel_rfl) fun K hK=> ?_
    go_simp;refine hK.out _ _ (fun _=>L.b) ?_;clear hK K
    try simp only[Act.put,Qb,Qc,Qd]
    refine bD (by kernel_rfl) ?_ _;go_wp2_with fail
    try rw[Qv]
    go_ret;exact⟨_,rfl,O5.low xF.o.size,xF.o.trans (L.b.mono xF.o.size)⟩
end
section
open Go.RowKit
theorem Ii (e:aD) (he:tw e) (MF:eR e):∀(k:Nat),k≤100→∀(w:Wo) (S:Nat→Prop),(∀x,S x→x<w.heap.size)→∀(c:ak),ur c→∀(v:Va),jw w S v c→c.blocks.length≤4096→9≤c.depth+k→bY c.ax c.depth (bz e)=true→
  Calls prog 64 #[v,jz e] w fun r w' =>∃v',r= .returned v'∧eN w' S w.heap.size v' (cP k c e)∧Below w.heap.size w w' :=by
 intro k;induction k with
 |zero=>intro _ w S hS c hc v h cC h9 hit;exact absurd hc.ok.d8 (by omega)
 |succ k ih=>
  intro hk w S hS c hc v h cC h9 hit;rw[cP];by_cases h1:c.first.length<9
  ·rw[Xo h1];exact Il w S hS c hc v h cC e he MF h1
  ·rw[Xd h1];cases h2:rH c e with
   |true=>
    rw[Xo rfl];exact Ik w S hS c hc v h cC e he MF h1 h2
   |false=>
    rw[Xd (by simp)];have qc:=Nat.lt_of_not_le fun hd=>by rw[xu hc hd hit] at h2;cases h2
    exact Ij w S hS c hc v h cC e he MF h1 h2 qc hit k h9 (by omega) (fun w S hS c hc v h hm h9 hi=>ih (by omega) w S hS c hc v h hm h9 hi)
end
section
open Go.RowKit
attribute [local go_sem] Oper.semAt_some
theorem YM (w:Wo) (x y:aD):(Op.equalIn 10000 68 (.agg #[.int .u64 x.print,.int .u32 x.block]) (.agg #[.int .u64 y.print,.int .u32 y.block])).run prog w= .ok (decide (x=y)) w:=by
 have f0:∀d,(Op.equalIn (d+1) 22 (.int .u64 x.print) (.int .u64 y.print)).run prog w= .ok (x.print==y.print) w:=fun d=>run_equalIn_int w d _ .u64 .u64 _ _ underlying22
 have f1:∀d,(Op.equalIn (d+1) 23 (.int .u32 x.block) (.int .u32 y.block)).run prog w= .ok (x.block==y.block) w:=fun d=>run_equalIn_int w d _ .u32 .u32 _ _ underlying23
 have p0:∀s:aD,(part 22 #[.int .u64 s.print,.int .u32 s.block] 0).run prog w= .ok (.int .u64 s.print) w:=fun s=>by
  have h2:(isAgg 22).run prog w= .ok false w:=by kernel_rfl
  unfold part;simp only[Sem.run_bind,h2,XH,Xn,if_false];rfl
 have p1:∀s:aD,(part 23 #[.int .u64 s.print,.int .u32 s.block] 1).run prog w= .ok (.int .u32 s.block) w:=fun s=>by
  have h2:(isAgg 23).run prog w= .ok false w:=by kernel_rfl
  unfold part;simp only[Sem.run_bind,h2,XH,Xn,if_false];rfl
 have hu:prog.underlying 68=some (.struct (prog.fieldsOf 68)):=by kernel_rfl
 have hp:prog.stoodInHeld 68=false:=by kernel_rfl
 rw[run_equalIn_struct w 9999 _ _ _ hu hp];have e2:∀xs ys,Op.eqFields 9999 xs ys (prog.fieldsOf 68).toList=(do
   let a ←part 22 xs 0
   let b ←part 22 ys 0
   let r ←Op.equalIn 9999 22 a b
   if(!r)=true then pure false else do
   let a ←part 23 xs 1
   let b ←part 23 ys 1
   let r ←Op.equalIn 9999 23 a b
   if(!r)=true then pure false else pure true):=fun xs ys=>by kernel_rfl
 rw[e2];simp only[Sem.run_bind,p0,p1,XH,f0 9998,f1 9998,Sem.run_ite,Sem.run_pure];have key:decide (x=y)=((x.print==y.print)&&(x.block==y.block)):=by
  rw[XD];simp only[XS,XR,beq_iff_eq];constructor
  ·rintro rfl;exact⟨rfl,rfl⟩
  ·rintro⟨h1,h2⟩;cases x;cases y;simp_all
 rw[key];cases(x.print==y.print)<;>cases(x.block==y.block)<;>simp
theorem Gq (w:Wo) (v:Va) (es:List aD) (h:Es w w.heap.size v es) (hl:es.length≤100000) (e:aD):
  Calls prog 129 #[v,jz e] w fun r w' =>(∃i:Int,r= .returned (.int .i64 i)∧decide (0≤i)=decide (e∈es))∧Below w.heap.size w w' :=by
 obtain⟨A,c,rfl,-,-⟩:=h.1.form;obtain⟨n,hn⟩:=eX es.length;obtain⟨er,pU⟩:=eX e.print;obtain⟨ek,mF⟩:=eX e.block;obtain⟨W0,aY,X0,B0⟩:=nW w [.int .u64 er,.int .u32 ek] 68;have H:=aa (gA h B0);have HX0:=aa X0;have mV:=aa B0;have fD:=aa aY.symm;have Hn:=kH hn (by omega:n≤100000) pU mF;unfold jz;rw[←hn,←pU,←mF];clear h hl hn aY X0 B0 pU mF;go_enter func129,ntmps129;go_upto_region 1 with fail
 rw[fD.o];go_wp2_with fail;go_loopw [8] (fun iv wr=>∃k:Nat,iv= .int .i64 k∧Af (k≤n∧e∉es.take k∧Below W0.heap.size W0 wr)) (fun iv _=>n - (intOf iv).toNat)
 case atStart=>exact⟨0,rfl,⟨Qp _,fun he=>(by cases he),Xj _ _⟩⟩
 case round=>
  obtain⟨k,rfl,HR⟩:=hrel;by_cases hk:k<n
  ·have bQ:k<es.length:=by rw[←Hn.o.1];exact hk
   obtain⟨b,o,c',hv,-,-,bO,aH⟩:=H.o.cells (QO (Qp _) bQ);obtain rfl:A=some ⟨b,o,none⟩:=by injection hv
   obtain⟨q0,q1⟩:=aH k bQ;obtain⟨x,hx⟩:=eX (es[k]);have oP:es[k]? =some x:=by rw[hx];exact Qf bQ
   rw[←hx] at q0 q1;have z0:=(HR.o.2.2.cell (p:=⟨b,o+k*2,none⟩) bO).trans q0;have z1:=(HR.o.2.2.cell (p:=⟨b,o+k*2+1,none⟩) bO).trans q1;obtain⟨e0,e1⟩:=gh (HX0.o.on HR.o.2.2);obtain⟨pr,gY⟩:=eX x.print;obtain⟨bk,ej⟩:=eX x.block;rw[←gY] at z0;rw[←ej] at z1;have cU:=aa HR.o;have HX:=kH oP hk gY ej;obtain⟨u1,u2,u3⟩:=bR hk Hn.o.2.1 (by decide);have Hu:=aa u1;clear hv bO aH q0 q1 hx oP gY ej HR hk bQ u1;obtain⟨R,hR⟩:=eX (decide (e=x));have hq:∀W,(binOp .eql 68 (.agg #[.int .u64 er,.int .u32 ek]) (.agg #[.int .u64 pr,.int .u32 bk])).run prog W= .ok (.bool R) W:=fun W=>by have h1:=YM W e x;rw[←Hn.o.2.2.1,←Hn.o.2.2.2,←HX.o.2.2.1,←HX.o.2.2.2,←hR] at h1;rw[run_eql_struct,h1];simp
   have Wv:prog.eqGuardType prog.depth 68=false:=by kernel_rfl
   have fF:=aa hR;clear hR;go_upto_region 4 with fail
   go_quiet (fail)
   have HD:Af (∀q,Below W0.heap.size W0 (wr.drewN q)):=fun q=>cU.o.2.2.trans ((below_drewN (Xj wr.heap.size wr) q).mono cU.o.2.2.size)
   clear hq Wv;cases R
   ·go_wp2_with fail;refine⟨⟨k+1,by first|rfl|(rw[Hu.o];rfl),HX.o.2.1,fun he=> ?_,HD.o _⟩,by first|exact al HX.o.2.1|(rw[Hu.o];exact al HX.o.2.1)⟩;rw[aA es k x HX.o.1] at he;rcases Qz.1 he with he|he
    ·exact cU.o.2.1 he
    ·rw[Qx] at he;have:=fF.o;rw[Xa he] at this;cases this
   ·have HT:Af (decide ((0:Int)≤k)=decide (e∈es)):=by show _=_;have h1:=XQ fF.o.symm;rw[Xa (Xh k),Xa (by rw[h1];exact Qi HX.o.1)]
    go_wp2_with fail
    all_goals(try rw[Qv])
    all_goals go_ret
    all_goals exact⟨⟨k,rfl,HT.o⟩,mV.o.trans ((HD.o _).mono mV.o.size)⟩
  ·have cH:=QE HR.o.1 (QC hk);have bm:=HR.o.2.1;rw[Qj (by rw[cH,Hn.o.1];exact Qg _)] at bm;have HA:=aa bm;have HL:=aa HR.o.2.2;subst cH;clear HR hk bm;go_wp2_with fail
   try rw[Qv]
   go_ret;exact⟨⟨-1,rfl,by rw[Xe HA.o];rfl⟩,mV.o.trans (HL.o.mono mV.o.size)⟩
theorem xl (w:Wo) (v:Va) (es:List aD) (h:Es w w.heap.size v es) (hl:es.length≤100000) (e:aD):
  Calls prog 63 #[v,jz e] w fun r w' =>r= .returned (.bool (decide (e∈es)))∧Below w.heap.size w w' :=by
 obtain⟨R,hR⟩:=eX (decide (e∈es));obtain⟨A,c,rfl,-,-⟩:=h.1.form;obtain⟨n,hn⟩:=eX es.length;obtain⟨er,pU⟩:=eX e.print;obtain⟨ek,mF⟩:=eX e.block;obtain⟨W0,aY,X0,B0⟩:=nW w [.int .u64 er,.int .u32 ek] 68;have HI:=Gq W0 _ es (gA h B0) hl e;unfold jz at HI⊢;rw[←hR,←hn,←pU,←mF] at HI;rw[←hR,←hn,←pU,←mF];have HI:=aa HI;have mV:=aa B0;have fD:=aa aY.symm;obtain⟨e0,e1⟩:=gh X0;clear h hl hn aY X0 B0 pU mF hR;go_enter func63,ntmps63;go_upto_region 1 with fail
 rw[fD.o];go_wp2_with(go_at_call 129;go_must(refine HI.o.mono ?_);rintro e W2 ⟨⟨i,rfl,hi⟩,b2⟩;have B2:=aa b2;clear b2);go_ret;exact⟨rfl,mV.o.trans (B2.o.mono mV.o.size)⟩
theorem RN (w:Wo) (s:ay) (ev:Va) (h:Es w w.heap.size ev s.es) (hl:s.es.length≤100000) (e:aD) (eb:Nat) (he:aq w eb 68 [.int .u64 e.print,.int .u32 e.block]):
  Calls prog 62 #[.agg #[.int .u8 s.depth,.int .u32 s.next,ev],.pointer (some ⟨eb,0,none⟩)] w fun r w' =>r= .returned (.bool (decide (e∈s.es)))∧Below w.heap.size w w' :=by
 obtain⟨R,hR⟩:=eX (decide (e∈s.es));obtain⟨W0,aY,X0,B0⟩:=nW w [.int .u8 s.depth,.int .u32 s.next,ev] 92;have HC:=xl W0 ev s.es (gA h B0) hl e;unfold jz at HC;obtain⟨A,c,rfl,-,-⟩:=h.1.form;obtain⟨n,hn⟩:=eX s.es.length;obtain⟨er,pU⟩:=eX e.print;obtain⟨ek,mF⟩:=eX e.block;obtain⟨d,hd⟩:=eX s.depth;obtain⟨nx,fu⟩:=eX s.next;rw[←hR,←hn,←pU,←mF] at HC;rw[←hR,←hn,←hd,←fu];rw[←hn,←hd,←fu] at X0 aY;rw[←pU,←mF] at he;have HC:=aa HC;have x2:=X0.cell (j:=2) rfl;obtain⟨e0,e1⟩:=gh (he.on B0);have fD:=aa aY.symm;have mV:=aa B0;clear h hl he hR aY X0 B0 hn hd fu pU mF;go_enter func62,ntmps62;go_upto_region 1 with fail
 rw[fD.o];go_wp2_with(go_at_call 63;go_must(refine HC.o.mono ?_);rintro e W2 ⟨rfl,b2⟩;have B2:=aa b2;clear b2);go_ret;exact⟨rfl,mV.o.trans (B2.o.mono mV.o.size)⟩
def BM (eb:Nat):Va:= .func (.func 62) #[] #[.pointer (some ⟨eb,0,none⟩)]
theorem DI (w:Wo) (v:Va) (ps:List (ay×Va)) (h:mP w w.heap.size v ps) (hl:ps.length≤100000) (e0:aD) (eb:Nat) (ho:aq w eb 68 [.int .u64 e0.print,.int .u32 e0.block]):
  Calls prog 128 #[v,BM eb] w fun r w' =>(∃i:Int,r= .returned (.int .i64 i)∧decide (0≤i)=ps.any fun p=>decide (e0∈p.1.es))∧Below w.heap.size w w' :=by
 obtain⟨A,c,rfl⟩:=h.form;obtain⟨n,hn⟩:=eX ps.length;obtain⟨T,hT⟩:=eX (ps.any fun p=>decide (e0∈p.1.es));rw[←hT];have H:=aa h;have HO:=aa ho;have Hn:=iJ hn (by omega:n≤100000) hT;rw[←hn];unfold BM;clear h hl hn ho hT;go_enter func128,ntmps128;go_wp2_with fail;go_loopw [8] (fun iv wr=>∃k:Nat,iv= .int .i64 k∧Af (k≤n∧(∀p∈ps.take k,decide (e0∈p.1.es)=false)∧Below w.heap.size w wr)) (fun iv _=>n - (intOf iv).toNat)
 case atStart=>exact⟨0,rfl,⟨Qp _,fun e he=>(by cases he),Xj _ _⟩⟩
 case round=>
  obtain⟨k,rfl,HR⟩:=hrel;by_cases hk:k<n
  ·obtain⟨p,hp⟩:∃p,ps[k]? =some p:=⟨_,Qf (by rw[←Hn.o.1];exact hk)⟩;have hS:=H.o.below HR.o.2.2;obtain⟨b,o,c',hv,bO,z0,z1,z2⟩:=hS.cells hp;obtain rfl:A=some ⟨b,o,none⟩:=by injection hv
   have eE:=hS.es p (Qi hp);have AZ:=RN wr p.1 p.2 (eE.1.more HR.o.2.2.size) (Qh eE.2.2.2 (by decide)) e0 eb (HO.o.on HR.o.2.2);obtain⟨R,hR⟩:=eX (decide (e0∈p.1.es));rw[←hR] at AZ;obtain⟨Ae,ce,hU,-,-⟩:=eE.1.1.form;obtain⟨L,hL⟩:=eX p.1.es.length;rw[←hL] at hU;rw[hU] at z2 AZ;obtain⟨d,hd⟩:=eX p.1.depth;obtain⟨nx,fu⟩:=eX p.1.next;rw[←hd] at z0 AZ;rw[←fu] at z1 AZ;have WY:=aa AZ;have cU:=aa HR.o;have HX:=iJ hp hR hk;obtain⟨u1,u2,u3⟩:=bR hk Hn.o.2.1 (by decide);have Hu:=aa u1;clear hv bO hS hp eE AZ hR hU hL hd fu HR hk u1;cases R
   ·go_wp2_with(go_at_call 62;go_must(refine WY.o.mono ?_);rintro e W2 ⟨rfl,b2⟩;have B2:=aa b2;clear b2);refine⟨⟨k+1,by first|rfl|(rw[Hu.o];rfl),⟨HX.o.2.2,fun q hq=> ?_,cU.o.2.2.trans (B2.o.mono cU.o.2.2.size)⟩⟩,by first|exact al HX.o.2.2|(rw[Hu.o];exact al HX.o.2.2)⟩;rw[aA ps k p HX.o.1] at hq;rcases Qz.1 hq with hq|hq
    ·exact cU.o.2.1 q hq
    ·rw[Qx] at hq;rw[hq];exact HX.o.2.1.symm
   ·have HTt:Af (decide ((0:Int)≤k)=T):=by
     show _=_;rw[Hn.o.2.2,Xa (Xh k)];symm
     exact Xb.2 ⟨p,Qi HX.o.1,HX.o.2.1.symm⟩
    go_wp2_with(go_at_call 62;go_must(refine WY.o.mono ?_);rintro e W2 ⟨rfl,b2⟩;have B2:=aa b2;clear b2)
    all_goals(try rw[Qv])
    all_goals go_ret
    all_goals exact⟨⟨k,rfl,HTt.o⟩,cU.o.2.2.trans (B2.o.mono cU.o.2.2.size)⟩
  ·have cH:=QE HR.o.1 (QC hk);have bm:=HR.o.2.1;rw[Qj (by rw[cH,Hn.o.1];exact Qg _)] at bm;have HTf:Af (decide ((0:Int)≤ -1)=T):=by
    show _=_;rw[Hn.o.2.2];symm
    show _=false;rw[Xf];intro ha;obtain⟨p,hp,h5⟩:=Xb.1 ha;rw[bm p hp] at h5;cases h5
   have HL:=aa HR.o.2.2;subst cH;clear HR hk bm;go_wp2_with fail
   try rw[Qv]
   go_ret;exact⟨⟨-1,rfl,HTf.o⟩,HL.o⟩
theorem wo (w:Wo) (v:Va) (ps:List (ay×Va)) (h:mP w w.heap.size v ps) (hl:ps.length≤100000) (e0:aD) (eb:Nat) (ho:aq w eb 68 [.int .u64 e0.print,.int .u32 e0.block]):
  Calls prog 61 #[v,BM eb] w fun r w' =>r= .returned (.bool (ps.any fun p=>decide (e0∈p.1.es)))∧Below w.heap.size w w' :=by
 obtain⟨R,hR⟩:=eX (ps.any fun p=>decide (e0∈p.1.es));have HI:=DI w v ps h hl e0 eb ho;rw[←hR] at HI⊢;have HI:=aa HI;obtain⟨A,c,rfl⟩:=h.form;obtain⟨n,hn⟩:=eX ps.length;rw[←hn] at HI⊢;unfold BM at HI⊢;clear h hl hn hR ho;go_enter func61,ntmps61;go_wp2_with(go_at_call 128;go_must(refine HI.o.mono ?_);rintro e W2 ⟨⟨i,rfl,hi⟩,b2⟩;have B2:=aa b2;clear b2);go_ret;exact⟨rfl,B2.o⟩
theorem tT {w:Wo} {g:Nat} {eL:List Int} (h:dn w g eL) (hl:eL.length=128) (hb:∀x∈eL,aI x):Bs w w.heap.size (.slice (some ⟨g,0,none⟩) 128 128) eL:=by
 have h1:=h.bs (o:=0) (n:=128) (c:=128) (by omega) (Qg _) (by unfold maxLen;decide) hb;rw[Zl,Qj (by omega)] at h1;exact h1
theorem YN:(encS ⟨0,0,[]⟩).length=128∧∀x∈encS ⟨0,0,[]⟩,aI x:=by
 refine⟨oq _ _ (by decide),lP (by unfold aI;decide) (nU ⟨0,0,[]⟩ (by unfold aI;decide) (Qp _))⟩
theorem Lq (w:Wo) (I:bF) (s:aX) (h:cR w I s) (hb:s.broken=false) (h0:s.root 3=0) (hr:2≤s.room) (b1 b2:Int) (s1 s2:aX) (e1:s.put (encS ⟨0,0,[]⟩)=(b1,0,s1)) (e2:s1.put (encI 4 [b1])=(b2,0,s2))
  (yZ:0≤b1∧b1<65536) (sq:2≤b2∧b2<s2.t.len) (e8:s2.broken=false):
  Calls prog 18 #[.pointer (some ⟨I.b,0,none⟩)] w fun e w' =>e= .returned (.int .i64 0)∧cR w' I (s2.cM 3 b2).2∧aG (BS I) w w' :=by
 have HM:=aa (la w I s h hb);have tI:=ot w I s h 3 (by decide);rw[h0] at tI;have tI:=aa tI;obtain⟨rm,ZJ⟩:=eX s.room;have HRm:=ou w I s h;rw[←ZJ] at HRm;have HRm:=aa HRm;rw[←ZJ] at hr;have SE :¬rm<2:=by omega
 have HI:=Nv h e1 e2 yZ sq e8;have w1:IntKind.u16.wrap b1=b1:=by simp only[IntKind.wrap_u16];omega
 clear h hb h0 hr ZJ e1 e2 yZ sq e8;go_enter func18,ntmps18;go_upto_region 8 with(first
  |(go_at_call 59;go_must(refine HM.o.mono ?_);rintro e W1 ⟨rfl,rfl⟩)
  |(go_at_call 70;go_must(refine tI.o.mono ?_);rintro e W1 ⟨rfl,rfl⟩)
  |(go_at_call 23;go_must(refine HRm.o.mono ?_);rintro e W1 ⟨rfl,rfl⟩))
 have Yb:Af (Calls prog 71 #[.agg #[.int .u8 0,.int .u32 0,.slice none 0 0]] w (Made w (encS ⟨0,0,[]⟩))):=by
  have h1:=CS w ⟨0,0,[]⟩ (.slice none 0 0) ⟨Sl.bU (World.ownsRow_nil w 0 68 2),fun x hx=>by cases hx⟩ (by unfold aI;decide) (by unfold bX;decide)
  exact h1.mono fun e w' h2=>by
   rcases h2 with⟨-,h2⟩|⟨h2,-⟩
   ·exact h2
   ·exact absurd h2 (by decide)
 have tp:Af (∀(W:Wo) (g:Nat),Below w.heap.size w W→dn W g (encS ⟨0,0,[]⟩)→w.heap.size≤g→Calls prog 72 #[.pointer (some ⟨I.b,0,none⟩),.slice (some ⟨g,0,none⟩) 128 128] W fun e w' =>e= .returned (.tuple #[.int .i64 b1,.int .i64 0])∧cR w' I s1∧aG (BS I) W w'):=fun W g hW ho hg=>by
  have h1:=yf W I s (HI.o.1.on hW) _ _ (tT ho YN.1 YN.2) (jD fun e=>absurd (HI.o.1.lt _ e) (XV.2 hg));rw[HI.o.2.1] at h1;exact h1
 have AJ:Af (∀(W W' :Wo) (g:Nat),cR W I s1→Below W.heap.size W W'→dn W' g (encI 4 [b1])→W.heap.size≤g→Calls prog 72 #[.pointer (some ⟨I.b,0,none⟩),.slice (some ⟨g,0,none⟩) 128 128] W' fun e w' =>e= .returned (.tuple #[.int .i64 b2,.int .i64 0])∧cR w' I s2∧aG (BS I) W' w'):=fun W W' g hB hW ho hg=>by
  have JP:=lY (k:=4) (l:=[b1]) (by unfold aI;decide) (show 1≤61 by decide)
  have h1:=yf W' I s1 (hB.on hW) _ _ (tT ho JP.1 JP.2) (jD fun e=>absurd (hB.lt _ e) (XV.2 hg));rw[HI.o.2.2.1] at h1;exact h1
 have HEI:Af (∀W:Wo,Calls prog 73 #[.int .u8 4,.slice (some ⟨W.heap.size,0,none⟩) 1 1] (W.alloc (.cells #[.int .u16 b1] 61)) (Made (W.alloc (.cells #[.int .u16 b1] 61)) (encI 4 [b1]))):=fun W=>by
  have X:=ar W [.int .u16 b1] 61;exact lX _ 4 (Or.inl rfl) _ [b1] (X.sl (o:=0) (n:=1) (sz:=1) (c:=1) (by simp) (Qg _) (by unfold maxLen;decide)) (show 1≤61 by decide) (fun x hx=>by rw[Qx] at hx;rw[hx];exact HI.o.2.2.2.1)
 have HSR:Af (∀W:Wo,cR W I s2→Calls prog 74 #[.pointer (some ⟨I.b,0,none⟩),.int .i64 3,.int .i64 b2] W fun e w' =>e= .returned (.int .i64 0)∧cR w' I (s2.cM 3 b2).2∧aG (BS I) W w'):=fun W hW=>zU W I s2 hW HI.o.2.2.2.2.2 3 (by decide) (by decide) b2 (Or.inr HI.o.2.2.2.2.1)
 clear HM tI HRm SE;go_upto_region 9 with(go_at_call 71;go_must(refine Yb.o.mono ?_);rintro e W1 ⟨g1,SN,rfl,o1,c1⟩;have HG1:=aa SN;have O1:=aa o1;have C1:=aa c1;clear SN o1 c1)
 go_upto_region 10 with(go_at_call 72;go_must(refine(tp.o W1 g1 C1.o O1.o HG1.o).mono ?_);rintro e W2 ⟨rfl,h2,c2⟩;have H2:=aa h2;have C2:=aa ((aG.aZ C1.o).trans c2);clear h2 c2)
 go_upto_region 11 with(go_at_call 73;go_must(refine(HEI.o W2).mono ?_);rintro e W3 ⟨g3,qa,rfl,o3,c3⟩;have HG3:=aa (Qh (aF W2 _).size qa);have O3:=aa o3;have C3:=aa ((aF W2 _).trans (c3.mono (aF W2 _).size));clear qa o3 c3)
 go_upto_region 12 with(go_at_call 72;go_must(refine(AJ.o W2 W3 g3 H2.o C3.o O3.o HG3.o).mono ?_);rintro e W4 ⟨rfl,h4,c4⟩;have H4:=aa h4;have C4:=aa ((C2.o.trans (aG.aZ C3.o)).trans c4);clear h4 c4)
 go_wp2_with(go_at_call 74;go_must(refine(HSR.o W4 H4.o).mono ?_);rintro e W5 ⟨rfl,h5,c5⟩;have H5:=aa h5;have C5:=aa (C4.o.trans c5);clear h5 c5)
 try rw[Qv]
 go_ret;exact⟨rfl,H5.o,C5.o⟩
theorem uT {α:Type} {l m:List α} {k:Nat} (h:l.take k=m.take k) {x y:α} (hx:l[k]? =some x) (hy:m[k]? =some y):(l.take (k+1)=m.take (k+1))↔x=y:=by
 rw[aA l k x hx,aA m k y hy,h];constructor
 ·intro h1;have:=List.append_cancel_left h1;injection this
 ·rintro rfl;rfl
theorem GI (w:Wo) (v u:Va) (es fs:List aD) (h:Es w w.heap.size v es) (h' :Es w w.heap.size u fs) (hl:es.length≤100000):
  Calls prog 249 #[v,u] w fun r w' =>r= .returned (.bool (decide (es=fs)))∧Below w.heap.size w w' :=by
 obtain⟨A,c,rfl,-,-⟩:=h.1.form;obtain⟨A',d,rfl,-,-⟩:=h'.1.form;obtain⟨n,hn⟩:=eX es.length;obtain⟨n',sf⟩:=eX fs.length;rw[←hn,←sf];by_cases jX:n=n'
 ·subst jX;have H:=aa h;have H' :=aa h';have Hn:=iJ hn sf (by omega:n≤100000);clear h h' hl hn sf;go_enter func249,ntmps249;go_wp2_with fail;go_loopw [13] (fun iv wr=>∃k:Nat,iv= .int .i64 k∧Af (k≤n∧es.take k=fs.take k∧Below w.heap.size w wr)) (fun iv _=>n - (intOf iv).toNat)
  case atStart=>exact⟨0,rfl,⟨Qp _,rfl,Xj _ _⟩⟩
  case round=>
   obtain⟨k,rfl,HR⟩:=hrel;by_cases hk:k<n
   ·have bQ:k<es.length:=by rw[←Hn.o.1];exact hk
    have zk :k<fs.length:=by rw[←Hn.o.2.1];exact hk
    obtain⟨b,o,c',hv,-,-,bO,aH⟩:=H.o.cells (QO (Qp _) bQ);obtain rfl:A=some ⟨b,o,none⟩:=by injection hv
    obtain⟨b',o',d',mQ,-,-,tu,uR⟩:=H'.o.cells (QO (Qp _) zk);obtain rfl:A' =some ⟨b',o',none⟩:=by injection mQ
    obtain⟨q0,q1⟩:=aH k bQ;obtain⟨p0,p1⟩:=uR k zk;obtain⟨x,hx⟩:=eX (es[k]);obtain⟨y,hy⟩:=eX (fs[k]);have oP:es[k]? =some x:=by rw[hx];exact Qf bQ
    have Sz:fs[k]? =some y:=by rw[hy];exact Qf zk
    rw[←hx] at q0 q1;rw[←hy] at p0 p1;have z0:=(HR.o.2.2.cell (p:=⟨b,o+k*2,none⟩) bO).trans q0;have z1:=(HR.o.2.2.cell (p:=⟨b,o+k*2+1,none⟩) bO).trans q1;have y0:=(HR.o.2.2.cell (p:=⟨b',o' +k*2,none⟩) tu).trans p0;have y1:=(HR.o.2.2.cell (p:=⟨b',o' +k*2+1,none⟩) tu).trans p1;obtain⟨pr,gY⟩:=eX x.print;obtain⟨bk,ej⟩:=eX x.block;obtain⟨pr',aaX⟩:=eX y.print;obtain⟨bk',abe⟩:=eX y.block;rw[←gY] at z0;rw[←ej] at z1;rw[←aaX] at y0;rw[←abe] at y1;obtain⟨R,hR⟩:=eX (decide (x=y));have hq:∀W,(binOp .neq 68 (.agg #[.int .u64 pr,.int .u32 bk]) (.agg #[.int .u64 pr',.int .u32 bk'])).run prog W= .ok (.bool (!R)) W:=fun W=>by have h1:=YM W x y;rw[←gY,←ej,←aaX,←abe,←hR] at h1;rw[run_neq_struct,h1];simp
    have Wv:prog.eqGuardType prog.depth 68=false:=by kernel_rfl
    have cU:=aa HR.o;have HX:=kH oP Sz hk hR;obtain⟨u1,u2,u3⟩:=bR hk Hn.o.2.2 (by decide);have Hu:=aa u1;clear hv bO aH q0 q1 hx oP gY ej HR hk bQ u1 mQ tu uR p0 p1 hy Sz aaX abe zk hR;go_upto_region 6 with fail
    go_quiet (fail)
    have HD:Af (∀q,Below w.heap.size w (wr.drewN q)):=fun q=>cU.o.2.2.trans ((below_drewN (Xj wr.heap.size wr) q).mono cU.o.2.2.size)
    clear hq Wv;cases R
    ·have HT:Af (decide (es=fs)=false):=by
      refine Xe fun he=> ?_
      have h1:=of_decide_eq_false HX.o.2.2.2.symm;have h2:=HX.o.1;rw[he,HX.o.2.1] at h2;exact h1 (Qr h2).symm
     go_wp2_with fail
     all_goals(try rw[Qv])
     all_goals go_ret
     all_goals exact⟨by rw[HT.o];rfl,HD.o _⟩
    ·go_wp2_with fail;refine⟨⟨k+1,by first|rfl|(rw[Hu.o];rfl),HX.o.2.2.1,(uT cU.o.2.1 HX.o.1 HX.o.2.1).2 (XQ HX.o.2.2.2.symm),HD.o _⟩,by first|exact al HX.o.2.2.1|(rw[Hu.o];exact al HX.o.2.2.1)⟩
   ·have cH:=QE HR.o.1 (QC hk);have HT:Af (decide (es=fs)=true):=by have h1:=HR.o.2.1;rw[cH,Qj (Xg Hn.o.1.symm),Qj (Xg Hn.o.2.1.symm)] at h1;exact Xa h1
    have HL:=aa HR.o.2.2;subst cH;clear HR hk;go_wp2_with fail
    try rw[Qv]
    go_ret;exact⟨by rw[HT.o];rfl,HL.o⟩
 ·have HT:Af (decide (es=fs)=false):=Xe fun he=>jX (by rw[hn,sf,he])
  have Wp:¬(n:Int)=n' :=fun h=>jX (Int.ofNat.inj h)
  clear h h' hl hn sf jX;go_enter func249,ntmps249;go_wp2_with fail
  all_goals(try rw[Qv])
  all_goals go_ret
  all_goals exact⟨by rw[HT.o];rfl,Xj _ _⟩
theorem rI (w:Wo) (s t:ay) (v u:Va) (h:Es w w.heap.size v s.es) (h' :Es w w.heap.size u t.es) (hl:s.es.length≤100000):
  Calls prog 223 #[.agg #[.int .u8 s.depth,.int .u32 s.next,v],.agg #[.int .u8 t.depth,.int .u32 t.next,u]] w fun r w' =>r= .returned (.bool (decide (s=t)))∧Below w.heap.size w w' :=by
 obtain⟨A,c,rfl,-,-⟩:=h.1.form;obtain⟨A',d,rfl,-,-⟩:=h'.1.form;obtain⟨n,hn⟩:=eX s.es.length;obtain⟨n',sf⟩:=eX t.es.length;obtain⟨sd,Eb⟩:=eX s.depth;obtain⟨sn,Wh⟩:=eX s.next;obtain⟨td,htd⟩:=eX t.depth;obtain⟨tn,htn⟩:=eX t.next;rw[←hn,←sf,←Eb,←Wh,←htd,←htn];rw[←hn] at h;rw[←sf] at h';obtain⟨W0,aY,X0,B0⟩:=nW w [.int .u8 sd,.int .u32 sn,.slice A n c] 92;have s0:W0.heap.size=w.heap.size+1:=by rw[aY];simp
 obtain⟨W1,aW,Y1,B1⟩:=nW W0 [.int .u8 td,.int .u32 tn,.slice A' n' d] 92;have fI:=B0.trans (B1.mono B0.size);have X1:=X0.on B1;rw[s0] at Y1;have HE:=aa (GI W1 _ _ s.es t.es (gA h fI) (gA h' fI) hl);obtain⟨yb,Io⟩:=eX (w.heap.size+1);rw[←Io] at Y1;have HW:=iJ aY.symm aW.symm Io.symm;obtain⟨x0,x1,x2⟩:=ra X1;obtain⟨y0,y1,y2⟩:=ra Y1;have HB:=aa fI;obtain⟨R,hR⟩:=eX (decide (s.es=t.es));rw[←hR] at HE;have HT:Af (decide (s=t)=((sd==td)&&((sn==tn)&&R))):=by
  show _=_;rw[Eb,Wh,htd,htn,hR,XD];simp only[XS,XR,beq_iff_eq];constructor
  ·rintro rfl;exact⟨rfl,rfl,rfl⟩
  ·rintro⟨h1,h2,h3⟩;cases s;cases t;simp_all
 clear h h' hl hn sf Eb Wh htd htn aY X0 B0 s0 aW Y1 B1 fI X1 Io hR;go_enter func223,ntmps223;go_upto_region 1 with fail
 rw[HW.o.1,HW.o.2.1]
 try rw[HW.o.2.2]
 go_wp2_with(go_at_call 249;go_must(refine HE.o.mono ?_);rintro e W2 ⟨rfl,b2⟩;have B2:=aa (HB.o.trans (b2.mono HB.o.size));clear b2)
 all_goals go_ret
 ·exact⟨by rw[HT.o];simp[*],B2.o⟩
 ·exact⟨by rw[HT.o];simp[*],HB.o⟩
 ·exact⟨by rw[HT.o];simp[*],HB.o⟩
end
end Go.Proofs.YthgdhacopamklaaGreat

/- What HashNone asks, part 35 of 41: parts of the walks and laws, each true as it stands. -/
import Derived.Test.YthgdhacopamklaaGreatTBH
set_option maxHeartbeats 16000000
set_option maxRecDepth 100000
set_option linter.unusedVariables false
set_option linter.unusedSimpArgs false
namespace Go.Proofs.YthgdhacopamklaaGreat
open Go.Proofs.Tryz
section
open Go.RowKit
attribute [local go_sem] Oper.semAt_some
variable {s : aX} {dep : Nat} {ae : List (Nat × Int)} {at_ : List Int} {ao gone : List ak}
theorem acx {S:Nat→Prop} {v:Va} (hS:∀g,v.ownBlock=some g→¬S g):Ap S v:=fun b o n' c _ e=>hS b (by rw[e];rfl)
theorem VG {w:Wo} {I:bF} (hB:cR w I s) (hd:BW s dep ae at_) (hg:∀c∈gone,ru c):∀x∈(bt dep ae at_ gone ao).gone,0≤x∧x<4096:=by
 have hn:=hB.n0;have kJ:∀x∈at_,0≤x∧x<4096:=fun x hx=>by obtain⟨i,hi,rfl⟩:=List.getElem_of_mem hx;obtain⟨-,k,h1,h2,h3,-⟩:=hd.rt i hi;rw[Qe,Qf hi] at h1;have h1:at_[i]=(k:Int):=h1;omega
 have JM:∀x∈iY gone ao,0≤x∧x<4096:=fun x hx=>by unfold iY at hx;obtain⟨c,hc,hx⟩:=QT.1 hx;exact(hg c hc).pos x ((List.mem_filter.1 hx).1)
 have hf:∀(ag l:List Int) (i:Nat) (g:List Int),(∀x∈l,0≤x∧x<4096)→(∀x∈g,0≤x∧x<4096)→∀x∈foldI (dA ag) i l g,0≤x∧x<4096:=by
  intro ag l;induction l with
  |nil=>intro i g _ hg;exact hg
  |cons a r ih=>
   intro i g hl hg;refine ih (i+1) _ (fun x hx=>hl x (Qs _ hx)) (fun x hx=> ?_);unfold dA at hx;split at hx
   ·rcases Qz.1 hx with hx|hx
    ·exact hg x hx
    ·rw[Qx.1 hx];exact hl a Qm
   ·exact hg x hx
 exact hf _ _ _ _ kJ JM
theorem RO (kJ:at_.length≤5) (hg:∀c∈gone,ru c) (AU:gone.length≤20):(bt dep ae at_ gone ao).gone.length≤100000:=by
 have h1:=rW (ao:=ao) hg;have h2:=Nat.mul_le_mul_right 4096 AU;have h3:=zF (bt dep ae at_ gone ao).ag at_ 0 (iY gone ao);have h4:(bt dep ae at_ gone ao).gone=foldI (dA (bt dep ae at_ gone ao).ag) 0 at_ (iY gone ao):=rfl;rw[h4];omega
theorem RX {cells:List aM} {n:Nat} (h:∀c∈cells,c.depth≤n):jC cells≤n:=by
 unfold jC;have h2:∀(l:List aM) (m:Nat),m≤n→(∀c∈l,c.depth≤n)→l.foldl (fun m c=>max m c.depth) m≤n:=by
  intro l;induction l with
  |nil=>intro m hm _;exact hm
  |cons a r ih=>
   intro m hm hl;exact ih _ (Nat.max_le.2 ⟨hm,hl a Qm⟩) (fun c hc=>hl c (Qs _ hc))
 exact h2 cells 0 (Qp _) h
def oY (s:aX) (x:Int):Bool:=s.ik x.toNat&&(s.t.get x.toNat==1)
theorem LK {l:List Int} {k:Nat} {x:Int} (h:l[k]? =some x):((l.take (k+1)).countP (oY s):Int)=((l.take k).countP (oY s):Nat)+(if oY s x then 1 else 0):=by
 rw[aA l k x h,List.countP_append,List.countP_singleton];split<;>simp
theorem Ks (w:Wo) (I:bF) (s:aX) (hB:cR w I s) (e8:s.broken=false) (dep:Nat) (ae:List (Nat×Int)) (at_:List Int) (cs:List ak) (hk:MU s dep ae at_ cs) (gv cv:Va) (gone ao:List ak) (hg:mI w (BS I) gv gone) (hc:mI w (BS I) cv ao)
  (AU:gone.length≤20) (oJ:ao.length≤10000) (JM:∀c∈gone,qo c) (AW:∀c∈ao,qo c) (mW:(dD ao).length≤100000)
  (Wy:kW cs gone ao=true→∀c∈ao,∀sh∈c.ah,∀n:Int,0≤n→n<4096→bC ⟨c.depth,n,sh.es⟩=true)
  (Tv:kW cs gone ao=true→(qt (bt dep ae at_ gone ao).ag ao:Int)≤gO s (bt dep ae at_ gone ao).gone→jJ (dS (bt dep ae at_ gone ao).dep (foldI bB 0 ao (dN s (bt dep ae at_ gone ao).gone,(bt dep ae at_ gone ao).cells)).2) (bt dep ae at_ gone ao).ag (foldI bB 0 ao (dN s (bt dep ae at_ gone ao).gone,(bt dep ae at_ gone ao).cells)).1):
  Calls prog 17 #[.pointer (some ⟨I.b,0,none⟩),gv,cv] w fun r w' =>r= .returned (.int .i64 (oV s dep ae at_ cs gone ao).1)∧cR w' I (oV s dep ae at_ cs gone ao).2∧aG (BS I) w w' :=by
 obtain⟨Ag,cg,rfl⟩:=hg.form;obtain⟨Ac,cc,rfl⟩:=hc.form;obtain⟨G,hG⟩:=eX gone.length;obtain⟨C,hC⟩:=eX ao.length;have jY:mI w (BS I) (.slice Ag G cg) gone:=by rw[hG];exact hg
 have pk:mI w (BS I) (.slice Ac C cc) ao:=by rw[hC];exact hc
 rw[←hG,←hC];have HM:=aa (la w I s hB e8);have Td:=aa (oz w I s hB dep ae at_ hk.dir);have H:=Ba hB hk jY pk e8;have HL:=hI7 hG hC (by omega:G≤20) (by omega:C≤10000) JM AW mW;have HF:=dK Wy Tv;clear hB e8 hk hg hc jY pk AU oJ JM AW mW Wy Tv hG hC;go_enter func17,ntmps17;go_upto_region 5 with(first
  |(go_at_call 59;go_must(refine HM.o.mono ?_);rintro e W1 ⟨rfl,rfl⟩)
  |(go_at_call 55;go_must(refine Td.o.mono ?_);rintro e W2 ⟨dv,av,rfl,d2,a2,b2⟩;obtain⟨Ad,nd,cd,rfl⟩:=d2.bu;obtain⟨Aa,na,ca,rfl⟩:=a2.bu;have D2:=aa d2;have A2:=aa a2;have B2:=aa b2;clear d2 a2 b2))
 obtain⟨W3,cD⟩:=eX (W2.alloc (.cells #[.int .u8 dep,.slice Ad nd cd] 133));obtain⟨db,iU⟩:=eX W2.heap.size;rw[←cD,←iU];have b3:Below W2.heap.size W2 W3:=by rw[cD];exact aF _ _
 have EF:=B2.o.trans (b3.mono B2.o.size);have X3:aq W3 db 133 [.int .u8 dep,.slice Ad nd cd]:=by rw[cD,iU];exact ar W2 [_,_] _
 have ue:=dU D2.o.ns b3;have AE:=dU A2.o.ns b3;have NP:=LP W3 I s (H.o.1.on EF) dep ae at_ cs H.o.2.1 (.slice Ad nd cd) ue (BS I) (.slice Ag G cg) (.slice Ac C cc) gone ao (H.o.2.2.1.on EF) (H.o.2.2.2.1.on EF) (by rw[←HL.o.1];exact HL.o.2.2.1) (by rw[←HL.o.2.1];exact HL.o.2.2.2.1) HL.o.2.2.2.2.1 HL.o.2.2.2.2.2.1
 obtain⟨x0,x1⟩:=gh X3;have H3:=kH X3 ue AE EF;clear cD iU b3 EF X3 ue AE B2 D2 A2 HM Td
 cases jZ:kW cs gone ao with
 |false=>
  rw[jZ] at NP;have NP:=aa NP;have Hsv:Af (oV s dep ae at_ cs gone ao=(2,s)):=by show _=_;unfold oV;rw[Xo jZ]
  clear jZ HF;go_wp2_with(go_at_call 65;go_must(refine NP.o.mono ?_);rintro e W4 ⟨rfl,b4⟩;have B4:=aa b4;clear b4)
  try rw[Qv]
  go_ret;rw[Hsv.o];have bb:=H3.o.2.2.2.trans (B4.o.mono H3.o.2.2.2.size);exact⟨rfl,H.o.1.on bb,aG.aZ bb⟩
 |true=>
  rw[jZ] at NP;have NP:=aa NP;have Hft:=aa jZ;clear jZ;go_upto_region 10 with(go_at_call 65;go_must(refine NP.o.mono ?_);rintro e W4 ⟨rfl,b4⟩;have B4:=aa b4;clear b4)
  clear x0 x1 NP;have b04:=H3.o.2.2.2.trans (B4.o.mono H3.o.2.2.2.size);have X4:=H3.o.1.on B4.o;obtain⟨x0,x1⟩:=gh X4;have dh:=zV W4 dep ae at_ H.o.2.1.dir.oH (.slice Ad nd cd) (.slice Aa na ca) (dU H3.o.2.1 B4.o) (dU H3.o.2.2.1 B4.o) H.o.2.1.dir.np (BS I) (.slice Ag G cg) (.slice Ac C cc) gone ao (H.o.2.2.1.on b04) (H.o.2.2.2.1.on b04) (by rw[←HL.o.1];exact HL.o.2.2.1) (by rw[←HL.o.2.1];exact HL.o.2.2.2.1) (fun c hc=>(HL.o.2.2.2.2.1 c hc).kp) HL.o.2.2.2.2.2.1 HL.o.2.2.2.2.2.2
  have uc:=VG H.o.1 H.o.2.1.dir (ao:=ao) (fun c hc=>(HL.o.2.2.2.2.1 c hc).kp);have hgn:=RO (dep:=dep) (ae:=ae) (ao:=ao) H.o.2.1.dir.af6.2 (fun c hc=>(HL.o.2.2.2.2.1 c hc).kp) (by rw[←HL.o.1];exact HL.o.2.2.1)
  obtain⟨PL,hPL⟩:=eX (bt dep ae at_ gone ao);have hsv:oV s dep ae at_ cs gone ao=if gO s PL.gone<qt PL.ag ao then(90,s) else(0,BQ s PL ao):=by
   rw[hPL];unfold oV;rw[Xd (by rw[Hft.o];decide)]
  have uf:PL.cells.length=256∧(∀c∈PL.cells,Yh c)∧PL.dep≤8∧PL.ag.length=kB (2^PL.dep):=by
   rw[hPL];have h1:=CZ (yP H.o.2.1.dir.oH) ao HL.o.2.2.2.2.2.1;refine⟨by show(cJ _ _).length=256;unfold cJ;rw[jt,cX],fun c hc=>(h1 c hc).2,RX fun c hc=>(h1 c hc).1,?_⟩
   show(jF _ _ _).length=_;rw[vF,fe];rfl
  rw[←hPL] at dh uc hgn;have Bj:=Nv hsv uf uc hgn (HF.o.1 Hft.o) (by rw[hPL];exact HF.o.2 Hft.o:((qt PL.ag ao:Int)≤gO s PL.gone→jJ (dS PL.dep (foldI bB 0 ao (dN s PL.gone,PL.cells)).2) PL.ag (foldI bB 0 ao (dN s PL.gone,PL.cells)).1))
  have HPn:=aa dh;have Uo:=aa b04;clear dh uc hgn hsv uf hPL X4 b04 HF;go_upto_region 11 with(go_at_call 66;go_must(refine HPn.o.mono ?_);rintro e W5 ⟨pb,sv,pv,gv,rfl,pb5,p5,s5,v5,g5,b5⟩;obtain⟨EO,np,cp,rfl⟩:=v5.bu;obtain⟨Ao,no,co,rfl⟩:=g5.bu;have P5:=aa (And.intro pb5 p5);have V5:=aa v5;have G5:=aa g5;have B5:=aa b5;clear pb5 p5 s5 v5 g5 b5)
  have SV:=Uo.o.trans (B5.o.mono Uo.o.size);have mU:=iJ SV (H.o.1.on SV) (H.o.2.2.2.1.on SV);have ZJ:=ou W5 I s mU.o.2.1;obtain⟨rm,UC⟩:=eX s.room;rw[←UC] at ZJ;have HRm:=aa ZJ;have agf:0≤rm∧rm≤4096:=by
   have hk:=mU.o.2.1.fh.ok.frees_le;rw[UC];unfold aX.room aE.room kU aR;unfold aX.len;have hn:=mU.o.2.1.n0;rw[Xd (by omega),Xd (by omega)];omega
  have ahi:Af (rm=s.room∧0≤rm∧rm≤4096):=⟨UC,agf⟩;have aaN:=P5.o.2.cell (bq Bj.o.2.1.1 3);have JJ:no=PL.gone.length:=by
   obtain⟨A',c',h1,-,-⟩:=G5.o.ns.form;injection h1
  have Ul:=dK JJ (by rw[JJ];exact Bj.o.2.2.2.1:no≤100000)
  clear SV ZJ UC agf JJ HPn x0 x1;go_wp2_with(go_at_call 23;go_must(refine HRm.o.mono ?_);rintro e W6 ⟨rfl,rfl⟩)
  clear aaN
  go_loopw [13,50] (fun rv iv wr=>∃k:Nat,iv= .int .i64 k∧rv= .int .i64 (rm+((PL.gone.take k).countP (oY s):Nat))∧wr=W5∧Af (k≤no)) (fun _ iv _=>no - (intOf iv).toNat)
  case atStart=>exact⟨0,rfl,by simp,rfl,Qp _⟩
  case round=>
   obtain⟨k,rfl,rfl,rfl,HR⟩:=hrel;by_cases hk:k<no
   ·obtain⟨b,o,rr,hv,-,-,fg,AX⟩:=G5.o.ns.cells (by rw[←Ul.o.1];exact QO (Qp _) hk)
    obtain rfl:Ao=some ⟨b,o,none⟩:=by injection hv
    obtain⟨x,hx⟩:=eX (PL.gone.getD k 0);have Ww:PL.gone[k]? =some x:=by rw[hx,Qe,Qf (by rw[←Ul.o.1];exact hk)];rfl
    have gd:=Bj.o.2.2.1 x (Qi Ww);obtain⟨xn,SB⟩:∃n:Nat,x=(n:Int):=⟨x.toNat,by omega⟩;have z0:wr.cell? ⟨b,o+k,none⟩=some (.int .i64 xn):=by
     rw[←SB,hx];exact AX k (by rw[←Ul.o.1];exact hk)
    have jZ:=LK (s:=s) Ww;have hfp:oY s x=(s.ik xn&&(s.t.get xn==1)):=by unfold oY;rw[SB,Xt]
    rw[hfp] at jZ;have eo:=vM wr I s mU.o.2.1 xn (by omega);have yY:=Ai wr I s mU.o.2.1 (xn:Int);rw[Xo (Xh xn),Xt] at yY;obtain⟨q,hq⟩:=eX (s.t.get xn);obtain⟨F,hF⟩:=eX (s.ik xn);rw[←hq] at yY jZ;rw[←hF] at eo jZ;obtain⟨m0,xB⟩:∃y:Nat,y=(PL.gone.take k).countP (oY s):=⟨_,rfl⟩;obtain⟨m1,Az⟩:∃y:Nat,y=(PL.gone.take (k+1)).countP (oY s):=⟨_,rfl⟩;have Wq:m0≤100000:=by
     have h1:=List.countP_le_length (p:=oY s) (l:=PL.gone.take k);have h2:=Bj.o.2.2.2.1;rw[Qu] at h1;omega
    rw[←xB,←Az] at jZ;rw[←xB];have EM:=aa eo;have Yc:=aa yY;have Hft:=aa jZ;have Hm1:=aa Az;obtain⟨u1,u2,u3⟩:=bR hk Ul.o.2 (by decide);have hwm:wrap64 (rm+(m0:Int)+1)=rm+(m0:Int)+1:=by
     have h1:=ahi.o.2;unfold wrap64;omega
    have Hwm:=aa hwm;have Hu:=aa u1;have Hk:=aa hk;clear hv fg AX hx Ww gd SB hfp eo yY hq hF xB Az Wq jZ HR hk u1 hwm
    cases F with
    |false=>
     have hr:(m1:Int)=m0:=by
      have:=Hft.o;simpa using this
     have Hr:=aa hr;clear hr;go_wp2_with(go_at_call 67;go_must(refine EM.o.mono ?_);rintro e W2 ⟨rfl,rfl⟩)
     exact⟨⟨k+1,by first|rfl|(rw[Hu.o];rfl),by rw[←Hm1.o,Hr.o],by first|rfl|trivial,Hk.o⟩,by first|exact al Hk.o|(rw[Hu.o];exact al Hk.o)⟩
    |true=>
     have hwm:=Hwm.o;by_cases ZN:q=1
     ·have hr:(m1:Int)=m0+1:=by
       have:=Hft.o;rw[ZN] at this;simpa using this
      have Hr:=aa hr;clear hr;subst ZN;go_wp2_with(first
       |(go_at_call 67;go_must(refine EM.o.mono ?_);rintro e W2 ⟨rfl,rfl⟩)
       |(go_at_call 34;go_must(refine Yc.o.mono ?_);rintro e W2 ⟨rfl,rfl⟩))
      exact⟨⟨k+1,by first|rfl|(rw[Hu.o];rfl),by rw[←Hm1.o,Hr.o];first|(rw[Int.add_assoc];done)|(rw[←Int.add_assoc,Hwm.o];done)|(rw[Hwm.o,Int.add_assoc];done),by first|rfl|trivial,Hk.o⟩,by first|exact al Hk.o|(rw[Hu.o];exact al Hk.o)⟩
     ·have hr:(m1:Int)=m0:=by
       have:=Hft.o;have h2:(q==1)=false:=by simpa using ZN
       rw[h2] at this;simpa using this
      have Hr:=aa hr;clear hr;have hqb:(q==1)=false:=by simpa using ZN
      go_wp2_with(first
       |(go_at_call 67;go_must(refine EM.o.mono ?_);rintro e W2 ⟨rfl,rfl⟩)
       |(go_at_call 34;go_must(refine Yc.o.mono ?_);rintro e W2 ⟨rfl,rfl⟩))
      exact⟨⟨k+1,by first|rfl|(rw[Hu.o];rfl),by rw[←Hm1.o,Hr.o],by first|rfl|trivial,Hk.o⟩,by first|exact al Hk.o|(rw[Hu.o];exact al Hk.o)⟩
   ·have cH:=QE HR.o (QC hk)
    have hfa:rm+((PL.gone.take k).countP (oY s):Nat)=gO s PL.gone:=by
     rw[cH,Qj (by rw[Ul.o.1];exact Qg _),ahi.o.1]
     rfl
    rw[hfa];obtain⟨fa,aa6⟩:=eX (gO s PL.gone);have Wl:=KO wr pb PL.cells PL.dep sv (.slice EO np cp) (.slice Ao no co) PL.ag P5.o.2 Bj.o.2.1.1 V5.o.ns (by rw[Bj.o.2.1.2.2.2];exact Qh (rT (Nat.pow_le_pow_right (by decide:0<2) Bj.o.2.1.2.2.1)) (by decide)) (BS I) (.slice Ac C cc) ao mU.o.2.2 (by rw[←HL.o.2.1];exact HL.o.2.2.2.1) (fun c hc=>(HL.o.2.2.2.2.2.1 c hc).kp.y7)
    obtain⟨pu,aaW⟩:=eX (qt PL.ag ao);rw[←aaW] at Wl;rw[←aa6];have Uj:=aa Wl;have HFp:=dK aa6 aaW;subst cH;clear hfa aa6 aaW Wl HR hk;by_cases aJ:fa<pu
    ·go_wp2_with(go_at_call 68;go_must(refine Uj.o.mono ?_);rintro e W6 ⟨rfl,b6⟩;have B6:=aa b6;clear b6)
     try rw[Qv]
     go_ret;have bb:=mU.o.1.trans (B6.o.mono mU.o.1.size);rw[Bj.o.1,Xo (by rw[←HFp.o.1,←HFp.o.2];exact aJ)]
     exact⟨rfl,H.o.1.on bb,aG.aZ bb⟩
    ·have pj:=Int.not_lt.1 aJ
     have Hge:=aa pj;go_upto_region 20 with(go_at_call 68;go_must(refine Uj.o.mono ?_);rintro e W6 ⟨rfl,b6⟩;have B6:=aa b6;clear b6)
     have hB6:=mU.o.1.trans (B6.o.mono mU.o.1.size);have xy:=Qh Uo.o.size P5.o.1;have hp6:=P5.o.2.on B6.o;have JP:cS (fun x=>x=pb) W6 I s:=H.o.1.new hB6 (fun x hx=>by rw[hx];exact xy) (fun x hx=>by rw[hx];exact hp6.lt)
     have aJ:=H.o.1.lt;have pt:∀{e:TypeId} {kd:IntKind} {v:Va} {xs:List Int},aB wr W4.heap.size e kd v xs→152≠e→Ap (fun x=>BS I x∨x=pb) v:=fun {e kd v xs} ho he=>acx fun g hg hx=>by
      have h1:=(pG ho hg).1;rcases hx with hx|hx
      ·have:=aJ g hx
       have:=Uo.o.size;omega
      ·exact P5.o.2.not_row he ho (by rw[hg,hx])
     have iH:mI W6 (fun x=>BS I x∨x=pb) (.slice Ac C cc) ao:=(H.o.2.2.2.1.apart (fun x hx=>hx.imp id fun e=>by rw[e];exact xy)).on hB6
     have hd:=LY W6 I s pb PL sv (.slice EO np cp) (.slice Ao k co) ao (.slice Ac C cc) JP H.o.2.2.2.2 hp6 Bj.o.2.1.1 Bj.o.2.1.2.1 Bj.o.2.1.2.2.1 (aB.on V5.o B6.o).ns (pt V5.o (by decide)) Bj.o.2.1.2.2.2 (aB.on G5.o B6.o).ns (pt G5.o (by decide)) Bj.o.2.2.2.1 (fun x hx=>(Bj.o.2.2.1 x hx).1) iH (by rw[←HL.o.2.1];exact HL.o.2.2.2.1) HL.o.2.2.2.2.2.1 Bj.o.2.2.2.2.1 (Bj.o.2.2.2.2.2 (by rw[←HFp.o.1,←HFp.o.2];exact pj))
     have HDn:=aa hd;have HPb:=dK xy hB6;clear hB6 xy hp6 JP aJ pt iH hd;go_wp2_with(go_at_call 69;go_must(refine HDn.o.mono ?_);rintro e W7 ⟨rfl,h7,c7⟩;have H7:=aa h7;have C7:=aa c7;clear h7 c7)
     go_ret;rw[Bj.o.1,Xd (by rw[←HFp.o.1,←HFp.o.2];exact Int.not_lt.2 Hge.o)]
     refine⟨rfl,H7.o,(aG.aZ (S:=BS I) HPb.o.2).iR C7.o (fun _ _ h=>h) fun x hx h=> ?_⟩;rcases h with h|h
     ·exact h
     ·rw[h] at hx;exact absurd hx (XV.2 HPb.o.1)
end
section
open Go.RowKit
attribute [local go_sem] Oper.semAt_some
variable {c : ak}
theorem ab3 {w:Wo} {S:Nat→Prop} {g:Nat} {bv sv:Va} (hx:aq w g 50 [.int .i64 c.ax,.int .i64 c.depth,bv,sv]) (hc:jw w S (.agg #[.int .i64 c.ax,.int .i64 c.depth,bv,sv]) c) (hg:¬S g):mI w S (.slice (some ⟨g,0,none⟩) 1 1) [c]:=by
 have h1:w.ownsRow 0 50 4 (.slice (some ⟨g,0,none⟩) 1 1) 1 [.int .i64 c.ax,.int .i64 c.depth,bv,sv]:=⟨rfl,.inr ⟨g,1,_,rfl,Qp _,hx,Qg _,by unfold maxLen;decide,rfl,rfl⟩⟩;exact⟨[(c,bv,sv)],Sl.bU h1,jD hg,fun m hm=>by rw[Qx] at hm;subst hm;exact hc,rfl⟩
theorem VK (c:ak) (ps:List (ay×Va)) (e:aD) (h:ps.map Prod.fst=c.ah):(ps.any fun p=>decide (e∈p.1.es))=decide (e∈c.all):=by
 rw[XD,Xb,XS];unfold ak.all;rw[←h,List.flatMap_map];constructor
 ·rintro⟨p,hp,he⟩;exact QT.2 ⟨p,hp,XQ he⟩
 ·intro he;obtain⟨p,hp,he⟩:=QT.1 he;exact⟨p,hp,Xa he⟩
structure CK (s:aX) (dep:Nat) (ae:List (Nat×Int)) (at_:List Int) (cs:List ak):Prop where
 live:s.broken=false
 ok:MU s dep ae at_ cs
 ch:∀c∈cs,ur c
theorem ahO {s:aX} {dep:Nat} {ae:List (Nat×Int)} {at_:List Int} {cs:List ak} (h:CK s dep ae at_ cs) (hc:c∈cs):qo c:=by
 have hG:=h.ch c hc;exact⟨⟨hG.ok.len,Qh (fL cs c hc) h.ok.many,hG.Ej⟩,hG.ok.d8,hG.ok.f256,hG.ok.ne⟩
def zq (s:aX) (dep:Nat) (ae:List (Nat×Int)) (at_:List Int) (cs:List ak) (e:aD):Int×aX:=
 if e.block=0∨(s.t.len:Int)≤e.block then(2,s)
 else match Bf cs (bz e) with
 |none=>(0,s)
 |some c=>if e∈c.all then(0,s) else oV s dep ae at_ cs [c] (cP 9 c e)
def ahs (s:aX) (dep:Nat) (ae:List (Nat×Int)) (at_:List Int) (gone ao:List ak):Prop:=
 (dD ao).length≤100000∧(∀c∈ao,qo c)∧(∀c∈ao,∀sh∈c.ah,∀n:Int,0≤n→n<4096→bC ⟨c.depth,n,sh.es⟩=true)∧
  jJ (dS (bt dep ae at_ gone ao).dep (foldI bB 0 ao (dN s (bt dep ae at_ gone ao).gone,(bt dep ae at_ gone ao).cells)).2) (bt dep ae at_ gone ao).ag (foldI bB 0 ao (dN s (bt dep ae at_ gone ao).gone,(bt dep ae at_ gone ao).cells)).1
def YV (s:aX) (dep:Nat) (ae:List (Nat×Int)) (at_:List Int) (cs:List ak) (e:aD):Prop:=
 ∀c,Bf cs (bz e)=some c→e∉c.all→¬(e.block=0∨(s.t.len:Int)≤e.block)→ahs s dep ae at_ [c] (cP 9 c e)
theorem vm (w:Wo) (I:bF) (s:aX) (h:cR w I s) (dep:Nat) (ae:List (Nat×Int)) (at_:List Int) (cs:List ak) (hk:CK s dep ae at_ cs) (e:aD) (hu:bI e.print) (hb:bX e.block) (hao:YV s dep ae at_ cs e):
  Calls prog 16 #[.pointer (some ⟨I.b,0,none⟩),.int .u64 e.print,.int .u32 e.block] w fun r w' =>r= .returned (.int .i64 (zq s dep ae at_ cs e).1)∧cR w' I (zq s dep ae at_ cs e).2∧aG (BS I) w w' :=by
 obtain⟨j,c,hj,hit,ej⟩:=sX w I s h dep ae at_ cs hk.ok e.print hu;have hit:bY c.ax c.depth (bz e)=true:=hit;have oS:=Qi hj;have kJ:=hk.ok.aaP.find oS hit;have HM:=aa (la w I s h hk.live);have uo:=aa ej;have H:Af (cR w I s∧CK s dep ae at_ cs∧bI e.print∧bX e.block):=⟨h,hk,hu,hb⟩;have HAo:=aa hao;have HC:Af (c∈cs∧Bf cs (bz e)=some c∧bY c.ax c.depth (bz e)=true):=⟨oS,kJ,hit⟩;have UN:zq s dep ae at_ cs e=if e.block=0∨(s.t.len:Int)≤e.block then(2,s) else if e∈c.all then(0,s) else oV s dep ae at_ cs [c] (cP 9 c e):=by unfold zq;rw[kJ]
 have HA:=aa UN;obtain⟨X,hX⟩:=eX (zq s dep ae at_ cs e);rw[←hX] at HA⊢;obtain⟨pr,bk⟩:=e;dsimp only at*;obtain⟨L,hL⟩:=eX s.t.len;rw[←hL] at HA;have HL:=aa hL;clear h hk hu hb hao hj hit ej oS kJ UN hX hL;go_enter func16,ntmps16;go_upto_region 5 with(first
  |(go_at_call 59;go_must(refine HM.o.mono ?_);rintro e W1 ⟨rfl,rfl⟩)
  |(go_at_call 14;go_must(refine uo.o.mono ?_);rintro e W2 ⟨bv,sv,ps,rfl,bo,so,hp,b2⟩;obtain⟨Ab,nb,cb,rfl⟩:=bo.bu;obtain⟨As,ns,ks,rfl⟩:=so.form;have BO:=aa bo;have SO:=aa so;have HP:=aa hp;have B2:=aa b2;clear bo so hp b2))
 have b3:=aF W2 (.cells #[.int .i64 c.ax,.int .i64 c.depth,.slice Ab nb cb,.slice As ns ks] 50);have X3:=ar W2 [.int .i64 c.ax,.int .i64 c.depth,.slice Ab nb cb,.slice As ns ks] 50;obtain⟨W3,cD⟩:=eX (W2.alloc (.cells #[.int .i64 c.ax,.int .i64 c.depth,.slice Ab nb cb,.slice As ns ks] 50));obtain⟨ug,iI⟩:∃y,y=W2.heap.size:=⟨_,rfl⟩;rw[←cD] at b3⊢;have X3:aq W3 ug 50 [.int .i64 c.ax,.int .i64 c.depth,.slice Ab nb cb,.slice As ns ks]:=by rw[cD,iI];exact X3
 rw[←iI];have hS:=H.o.1.lt;have EF:=B2.o.trans (b3.mono B2.o.size);have HCA:Af (jw W3 (BS I) (.agg #[.int .i64 c.ax,.int .i64 c.depth,.slice Ab nb cb,.slice As ns ks]) c∧iP W3 (BS I) (.slice As ns ks) ps∧Ns W3 W3.heap.size .i64 (.slice Ab nb cb) c.blocks):=by
  have ho:rl W2 w.heap.size ⟨c,.slice Ab nb cb,.slice As ns ks,ps⟩:=⟨BO.o,SO.o,HP.o⟩;have ha:=ho.cha hS;have hs:iP W2 (BS I) (.slice As ns ks) ps:=by obtain⟨NC,tZ,DX,e',h1,h2,h3,h4⟩:=ha.ex;exact⟨SO.o.Wa,jG SO.o.row hS,fun p hp=>jG (SO.o.es p hp).1 hS⟩
  exact⟨ha.on b3,hs.on b3,dU BO.o.ns b3⟩
 have Nx:=dI W3 I s (H.o.1.on EF);rw[←HL.o] at Nx;have AL:=aa Nx;have pw:Af (Below w.heap.size w W3∧w.heap.size≤ug∧∀x,BS I x→x<w.heap.size):=⟨EF,by rw[iI];exact B2.o.size,hS⟩;have Em:=aa X3;have hL0:(L:Int)≤4096:=by rw[HL.o];have:=H.o.1.n0;omega
 have hwk:IntKind.i64.wrap bk=bk:=by have:=H.o.2.2.2;unfold bX at this;rw[XN];omega
 clear cD iI b3 X3 hS EF Nx HM uo hL0;by_cases h0:bk=0
 ·subst h0;go_wp2_with fail
  try rw[Qv]
  go_ret;rw[HA.o,Xo (by first|exact .inl rfl|exact .inl trivial)];exact⟨rfl,H.o.1.on pw.o.1,aG.aZ pw.o.1⟩
 ·have h0b:(bk==0)=false:=by simpa using h0
  by_cases h1:(L:Int)≤bk
  ·go_wp2_with(go_at_call 60;go_must(refine AL.o.mono ?_);rintro e W4 ⟨rfl,rfl⟩)
   try rw[Qv]
   go_ret;rw[HA.o,Xo (.inr h1)];exact⟨rfl,H.o.1.on pw.o.1,aG.aZ pw.o.1⟩
  ·have IF:Af (X=if(⟨pr,bk⟩:aD)∈c.all then(0,s) else oV s dep ae at_ cs [c] (cP 9 c ⟨pr,bk⟩)):=by show _=_;rw[HA.o,Xd (by rintro(h|h);exact h0 h;exact h1 h)]
   have HR:Af (0<bk∧bk<L):=⟨by have h2:0≤bk:=H.o.2.2.2.1;omega,by omega⟩;go_upto_region 9 with(go_at_call 60;go_must(refine AL.o.mono ?_);rintro e W4 ⟨rfl,rfl⟩)
   obtain⟨W4,j7,X4,b4⟩:=nW W3 [.int .u64 pr,.int .u32 bk] 68;obtain⟨eb,mR⟩:=eX W3.heap.size;rw[←mR] at X4;have Bh:=dK j7.symm mR.symm;have iH:=wo W4 (.slice As ns ks) ps (HCA.o.2.1.s.on b4) (by have h1:=XF List.length HP.o;rw[Qq,←(H.o.2.1.ch c HC.o.1).ok.len] at h1;rw[h1];exact Qh (fL cs c HC.o.1) (Qh H.o.2.1.ok.many (by decide))) ⟨pr,bk⟩ eb X4;rw[VK c ps ⟨pr,bk⟩ HP.o] at iH;have wO:=aa iH;have x3:=(Em.o.on b4).cell (j:=3) rfl;have WT:=iJ b4 (Em.o.on b4) X4;clear j7 mR b4 X4 iH AL h0b hwk h0 h1;go_upto_region 10 with fail
   rw[Bh.o.1,Bh.o.2];clear Bh;unfold BM at wO;by_cases hm:(⟨pr,bk⟩:aD)∈c.all
   ·have wO:Af (Calls prog 61 #[.slice As ns ks,.func (.func 62) #[] #[.pointer (some ⟨eb,0,none⟩)]] W4 fun r w' =>r= .returned (.bool true)∧Below W4.heap.size W4 w'):=by have h1:=wO.o;rw[Xa hm] at h1;exact h1
    have HA3:Af (X=(0,s)):=by show _=_;rw[IF.o,Xo hm]
    clear hm;go_wp2_with(go_at_call 61;go_must(refine wO.o.mono ?_);rintro e W5 ⟨rfl,b5⟩;have B5:=aa b5;clear b5)
    try rw[Qv]
    go_ret;rw[HA3.o];have bb:=pw.o.1.trans ((WT.o.1.trans (B5.o.mono WT.o.1.size)).mono pw.o.1.size);exact⟨rfl,H.o.1.on bb,aG.aZ bb⟩
   ·have wO:Af (Calls prog 61 #[.slice As ns ks,.func (.func 62) #[] #[.pointer (some ⟨eb,0,none⟩)]] W4 fun r w' =>r= .returned (.bool false)∧Below W4.heap.size W4 w'):=by have h1:=wO.o;rw[Xe hm] at h1;exact h1
    have HA3:=dK (by rw[IF.o,Xd hm]:X=oV s dep ae at_ cs [c] (cP 9 c ⟨pr,bk⟩)) hm;clear hm;go_upto_region 12 with(go_at_call 61;go_must(refine wO.o.mono ?_);rintro e W5 ⟨rfl,b5⟩;have B5:=aa b5;clear b5)
    have b5:=WT.o.1.trans (B5.o.mono WT.o.1.size);have b05:=pw.o.1.trans (b5.mono pw.o.1.size);obtain⟨Wd,dJ⟩:=eX W5.drew;have bd:Below W5.heap.size W5 Wd:=by rw[dJ];exact below_drewN (Xj W5.heap.size W5) 1
    have AG:=aa dJ.symm;have b0d:=b05.trans (bd.mono b05.size);have b3d:=b5.trans (bd.mono b5.size);have b4d:=B5.o.trans (bd.mono B5.o.size);obtain⟨x0,x1,x2,x3'⟩:=mm (WT.o.2.1.on b4d);obtain⟨y0,y1⟩:=gh (WT.o.2.2.on b4d);have j5:=H.o.1.n0;have ej:0<bk∧bk<4096:=by have:=HR.o;rw[HL.o] at this;omega
    have he:tw ⟨pr,bk⟩:=⟨H.o.2.2.1,by show bk≠0;omega,ej.2⟩;have jZ:=HAo.o c HC.o.2.1 HA3.o.2 (by rw[←HL.o];have:=HR.o;show ¬(bk=0∨(L:Int)≤bk);omega);have HSw:Af (∀(V:Wo) gv cv,Below w.heap.size w V→mI V (BS I) gv [c]→mI V (BS I) cv (cP 9 c ⟨pr,bk⟩)→Calls prog 17 #[.pointer (some ⟨I.b,0,none⟩),gv,cv] V fun r w' =>r= .returned (.int .i64 X.1)∧cR w' I X.2∧aG (BS I) V w'):=fun V gv cv hV hg hc=>by
     have h1:=Ks V I s (H.o.1.on hV) H.o.2.1.live dep ae at_ cs H.o.2.1.ok gv cv [c] (cP 9 c ⟨pr,bk⟩) hg hc (by simp) (Qh (gX 9 c ⟨pr,bk⟩) (by decide)) (fun c' TJ =>by rw[Qx.1 TJ];exact ahO H.o.2.1 HC.o.1) jZ.2.1 jZ.1
      (fun _=>jZ.2.2.1) (fun _ _=>jZ.2.2.2)
     rw[HA3.o.1];exact h1
    have HAd:Af (∀(V:Wo),Below Wd.heap.size Wd V→Calls prog 64 #[.agg #[.int .i64 c.ax,.int .i64 c.depth,.slice Ab nb cb,.slice As ns ks],.agg #[.int .u64 pr,.int .u32 bk]] V fun r w' =>∃v',r= .returned v'∧eN w' (BS I) V.heap.size v' (cP 9 c ⟨pr,bk⟩)∧Below V.heap.size V w'):=fun V hV=>by have hb:=b3d.trans (hV.mono b3d.size);exact Ii ⟨pr,bk⟩ he ⟨H.o.2.2.1,H.o.2.2.2⟩ 9 (by decide) V (BS I) (fun x hx=>Qn (pw.o.2.2 x hx) (b0d.trans (hV.mono b0d.size)).size) c (H.o.2.1.ch c HC.o.1) _ (HCA.o.1.on hb) (Qh (fL cs c HC.o.1) H.o.2.1.ok.many) (by omega) HC.o.2.2
    have HD:=dK b0d (HCA.o.1.on b3d);clear b5 b05 dJ bd b0d b3d b4d j5 ej he jZ x3;refine bL (fun j=>[6,7].contains j) (fun W=>Below Wd.heap.size Wd W) (by kernel_rfl) ?_;rw[AG.o];have L1:=Xj Wd.heap.size Wd;refine tK 0 41 (.pointer (some ⟨I.b,0,none⟩)) rfl rfl rfl (by kernel_rfl) (fun _ _ _ h=>h) (fun W hW=>by go_simp) L1 ?_
    try simp only[Act.put,Qb,Qc,Qd]
    refine aK (i:=1) (some 42) (v:= .agg #[.int .i64 c.ax,.int .i64 c.depth,.slice Ab nb cb,.slice As ns ks]) rfl rfl (by kernel_rfl) (fP (by kernel_rfl)) (fun _ _ _ h=>h) (Or.inl ⟨by rfl,fun W hW=>by have h0_:=(hW.cell (XX x0)).trans x0;have h1_:=(hW.cell (XX x1)).trans x1;have h2_:=(hW.cell (XX x2)).trans x2;have h3_:=(hW.cell (XX x3')).trans x3';go_simp⟩) L1 ?_
    try simp only[Act.put,Qb,Qc,Qd]
    refine aK (i:=3) (some 44) (v:= .agg #[.int .i64 c.ax,.int .i64 c.depth,.slice Ab nb cb,.slice As ns ks]) rfl rfl (by kernel_rfl) (fP (by kernel_rfl)) (fun _ _ _ h=>h) (Or.inl ⟨by rfl,fun W hW=>by have h0_:=(hW.cell (XX x0)).trans x0;have h1_:=(hW.cell (XX x1)).trans x1;have h2_:=(hW.cell (XX x2)).trans x2;have h3_:=(hW.cell (XX x3')).trans x3';go_simp⟩) L1 ?_
    try simp only[Act.put,Qb,Qc,Qd]
    refine aK (i:=4) (some 45) (v:= .agg #[.int .u64 pr,.int .u32 bk]) rfl rfl (by kernel_rfl) (fP (by kernel_rfl)) (fun _ _ _ h=>h) (Or.inl ⟨by rfl,fun W hW=>by have h0_:=(hW.cell (XX y0)).trans y0;have h1_:=(hW.cell (XX y1)).trans y1;go_simp⟩) L1 ?_
    try simp only[Act.put,Qb,Qc,Qd]
    refine gR [2] [5] (fun a0 i j a W=>∃JB x46,a=(a0.put (some 43) JB).put (some 46) x46∧Below Wd.heap.size Wd W∧(1≤i→∃g,JB= .slice (some ⟨g,0,none⟩) 1 1∧w.heap.size≤g∧aq W g 50 [.int .i64 c.ax,.int .i64 c.depth,.slice Ab nb cb,.slice As ns ks])∧(1≤j→eN W (BS I) Wd.heap.size x46 (cP 9 c ⟨pr,bk⟩))) 2 rfl (by kernel_rfl) ⟨_,_,Ux (by rfl),L1,fun h=>absurd h (by decide),fun h=>absurd h (by decide)⟩ ⟨?_,trivial⟩ ⟨?_,trivial⟩ ?_
    all_goals clear L1
    ·rintro j a W ⟨JB,x46,rfl,L1,-,HB⟩;refine bJ rfl (fun K hK=> ?_);obtain⟨V,hV,X,b⟩:=nW W [.int .i64 c.ax,.int .i64 c.depth,.slice Ab nb cb,.slice As ns ks] 50;simp only[Act.put,Qb,Qc,Qd];go_simp;rw[←hV];refine hK.out _ _ ⟨fun _=>L1.trans (b.mono L1.size),.slice (some ⟨W.heap.size,0,none⟩) 1 1,x46,?_,L1.trans (b.mono L1.size),fun _=>⟨_,rfl,Qh HD.o.1.size L1.size,X⟩,fun h=>(HB h).on b⟩;simp only[Act.put,Qb,Qc,Qd]
    ·rintro i a W ⟨JB,x46,rfl,L1,HA,-⟩;refine bJ rfl (fun K hK=> ?_);simp only[Act.put,Qb,Qc,Qd];go_simp;go_at_call 64;refine Calls.mono (HAd.o W L1) ?_;rintro e V ⟨v5,rfl,l5,b⟩;go_simp;refine hK.out _ _ ⟨fun _=>L1.trans (b.mono L1.size),JB,v5,?_,L1.trans (b.mono L1.size),fun h=>(HA h).imp fun g hg=>⟨hg.1,hg.2.1,hg.2.2.on b⟩,fun _=>l5.low L1.size⟩;simp only[Act.put,Qb,Qc,Qd]
    ·rintro a V5 ⟨JB,x46,rfl,L1,HA,HB⟩;obtain⟨g4,rfl,G4,X4⟩:=HA (Qg _);have l5:=HB (Qg _);obtain⟨A5,n5,c5,rfl⟩:=l5.form;clear HA HB;simp only[Act.put,Qb,Qc,Qd];refine ju 6 rfl (by kernel_rfl) fun K hK=> ?_
     have agT:=HD.o.1.trans (L1.mono HD.o.1.size);have UI:=ab3 X4 (HD.o.2.on L1) (fun hx=>absurd (pw.o.2.2 g4 hx) (XV.2 G4));have UH:=l5.ls (fun x hx=>Qn (pw.o.2.2 x hx) HD.o.1.size);go_simp;go_at_call 17;refine Calls.mono (HSw.o V5 _ _ agT UI UH) ?_;rintro e V9 ⟨rfl,h9,c9⟩;go_simp;refine hK.out _ _ (fun hx=>by simp at hx) ?_;clear hK K
     try simp only[Act.put,Qb,Qc,Qd]
     refine ju 7 rfl (by kernel_rfl) fun K hK=> ?_
     go_simp;refine hK.out _ _ (fun hx=>by simp at hx) ?_;clear hK K
     try simp only[Act.put,Qb,Qc,Qd]
     refine bD (by kernel_rfl) ?_ _;go_wp2_with fail;go_ret;exact⟨rfl,h9,(aG.aZ agT).trans c9⟩
end
section
variable {s : aX} {dep n : Nat} {ae : List (Nat × Int)} {at_ : List Int} {cs : List ak}
theorem gD {α:Type} {l:List α} {i:Nat} {x:α} (d:α) (h:l[i]? =some x):l.getD i d=x∧i<l.length:=by
 rw[Qe,h];exact⟨rfl,(Ql.1 h).1⟩
def ChD (s:aX) (dep:Nat) (ae:List (Nat×Int)) (j:Nat) (g:Nat×Int) (c:ak):Prop:=
 g.1=2^g.1.log2∧g.1.log2≤dep∧aC ae j%g.1=0∧c.blocks.getD 0 0=g.2∧c.ax=aC ae j*2^(8 - dep)∧c.depth=dep - g.1.log2∧dz c=true∧c.blocks.length=c.ah.length∧c.ah≠[]∧c.blocks.Nodup∧
 (∀k,k<c.blocks.length→0<c.blocks.getD k 0∧c.blocks.getD k 0<s.t.len∧mJ (s.read (c.blocks.getD k 0).toNat)=c.ah[k]?∧(c.ah.getD k ⟨0,0,[]⟩).next=c.blocks.getD (k+1) 0)∧
 (∀e∈c.all,(0≤e.print∧e.print<18446744073709551616)∧e.block≠0∧e.block<4096)∧∀x∈c.blocks,0≤x∧x<4096
instance (s:aX) (dep:Nat) (ae:List (Nat×Int)) (j:Nat) (g:Nat×Int) (c:ak):Decidable (ChD s dep ae j g c):=by unfold ChD;infer_instance
def CkD (s:aX) (dep:Nat) (ae:List (Nat×Int)) (at_:List Int) (cs:List ak):Prop:=
 s.broken=false∧dep≤8∧(expand ae).length=2^dep∧(ae.map Prod.snd).Nodup∧(∀x∈ae,0<x.2∧x.2<4096)∧(at_.length:Int)=aR (2^dep:Nat)∧
 (∀i,i<at_.length→s.root (3+i)=at_.getD i 0∧2≤at_.getD i 0∧at_.getD i 0<s.t.len∧pB 4 (s.read (at_.getD i 0).toNat)=some (bG (expand ae) i))∧
 (∀i,i<5→at_.length≤i→s.root (3+i)=0)∧(∃g∈ae,g.1=1)∧cs.length=ae.length∧(cs.flatMap (·.blocks)).Nodup∧(cs.flatMap (·.blocks)).length≤4096∧
 ∀j,j<ae.length→ChD s dep ae j (ae.getD j (0,0)) (cs.getD j ⟨0,0,[],[]⟩)
instance (s:aX) (dep:Nat) (ae:List (Nat×Int)) (at_:List Int) (cs:List ak):Decidable (CkD s dep ae at_ cs):=by unfold CkD;infer_instance
theorem CkD.ck (h:CkD s dep ae at_ cs):CK s dep ae at_ cs:=by
 obtain⟨a1,a2,a3,a4,a5,a6,a7,a8,a9,a10,a11,a12,a13⟩:=h;have hc:∀(j:Nat) (g:Nat×Int) (c:ak),ae[j]? =some g→cs[j]? =some c→ChD s dep ae j g c:=fun j g c hg hc=>by have h1:=a13 j (gD (0,0) hg).2;rwa[(gD (0,0) hg).1,(gD _ hc).1] at h1
 have hs:∀(j:Nat) (g:Nat×Int),ae[j]? =some g→∃c,cs[j]? =some c:=fun j g hg=>⟨_,Qf (by rw[a10];exact(gD (0,0) hg).2)⟩
 refine⟨a1,⟨⟨⟨a2,a3,a4,a5,fun j g hg=> ?_⟩,a6,fun i hi=> ?_,fun i h1 h2=>a8 i h2 h1,a9⟩,a10,fun j g c hg Z0=> ?_,a11,a12⟩,fun c oS=> ?_⟩
 ·obtain⟨c,Z0⟩:=hs j g hg;obtain⟨b1,b2,b3,-⟩:=hc j g c hg Z0;exact⟨_,b2,b1,b3⟩
 ·obtain⟨b1,b2,b3,b4⟩:=a7 i hi;exact⟨b1,(at_.getD i 0).toNat,by omega,by omega,by omega,b4⟩
 ·obtain⟨b1,b2,b3,b4,b5,b6,b7,b8,b9,wC,Ek,-⟩:=hc j g c hg Z0;refine⟨⟨b8,b9,fun k hk=> ?_,wC⟩,b7,b4,b5,_,b2,b1,b6⟩;obtain⟨c1,c2,c3,c4⟩:=Ek k hk;have si:k<c.ah.length:=by rw[←b8];exact hk
  refine⟨(c.blocks.getD k 0).toNat,c.ah[k],?_,by omega,by omega,Qf si,by rw[c3];exact Qf si,?_⟩
  ·rw[Xp (by omega),Qe,Qf hk];rfl
  ·rw[←c4,Qe,Qf si];rfl
 ·obtain⟨j,hj⟩:=List.getElem?_of_mem oS;obtain⟨b1,b2,b3,b4,b5,b6,b7,b8,b9,wC,Ek,Be,mO⟩:=hc j _ c (Qf (by rw[←a10];exact(gD c hj).2)) hj;exact⟨(FT c fun sh ta e he=>(Be e (QT.2 ⟨sh,ta,he⟩)).1.1).1 b7,fun e he=>⟨(Be e he).1,(Be e he).2.1,(Be e he).2.2⟩,mO⟩
def mpI (f:Nat→aM→aM):Nat→List aM→List aM
 |_,[]=>[]
 |i,x::r=>f i x::mpI f (i+1) r
theorem Pk:∀(l:List aM) (f:Nat→aM→aM) (i:Nat),mpI f i l=l.mapIdx fun n=>f (n+i)
 |[],_,_=>rfl
 |x::r,f,i=>by
  rw[List.mapIdx_cons,QR];refine XF _ ((Pk r f (i+1)).trans ?_)
  congr
  funext n
  rw[XB,Nat.add_comm 1 i]
def YO (cells:List aM) (i:Nat) (c:ak):List aM:=mpI (fun n x=>if bY c.ax c.depth n then⟨c.blocks.getD 0 0,c.depth,i+1⟩ else x) 0 cells
theorem Sg:YO=fE:=by
 funext cells i c
 exact Pk _ _ _
def BC (dep:Nat) (ae:List (Nat×Int)) (at_:List Int) (gone ao:List ak):qD:=
 let cells:=foldI YO 0 ao (bc dep ae)
 let d:=jC cells
 let bP:=dS d cells
 let ag:=jF at_ (expand ae) bP
 ⟨cells,d,bP,ag,foldI (dA ag) 0 at_ (iY gone ao)⟩
theorem Cm (dep:Nat) (ae:List (Nat×Int)) (at_:List Int):BC dep ae at_=bt dep ae at_:=by
 funext gone ao
 unfold BC;rw[Sg];rfl
def ahx (P:List ak→List ak→qD) (s:aX) (cs gone ao:List ak):Int×aX:=
 if kW cs gone ao=false then(2,s) else if gO s (P gone ao).gone<qt (P gone ao).ag ao then(90,s) else(0,BQ s (P gone ao) ao)
def anG (P:List ak→List ak→qD) (s:aX) (cs:List ak) (e:aD):Int×aX:=
 if e.block=0∨(s.t.len:Int)≤e.block then(2,s)
 else match Bf cs (bz e) with
 |none=>(0,s)
 |some c=>if e∈c.all then(0,s) else ahx P s cs [c] (cP 9 c e)
def UQ (s:aX) (dep:Nat) (ae:List (Nat×Int)) (at_:List Int) (cs:List ak) (e:aD):Int×aX:=anG (BC dep ae at_) s cs e
theorem VW:UQ=zq:=by
 funext s dep ae at_ cs e
 unfold UQ;rw[Cm];rfl
def BX (P:List ak→List ak→qD) (s:aX) (gone ao:List ak):Prop:=
 (dD ao).length≤100000∧(∀c∈ao,(c.blocks.length=c.ah.length∧c.blocks.length≤4096∧∀x∈c.blocks,0≤x∧x<4096)∧c.depth≤8∧c.ax<256∧c.ah≠[]∧∀sh∈c.ah,bC ⟨c.depth,0,sh.es⟩=true)∧
  jJ (dS (P gone ao).dep (foldI bB 0 ao (dN s (P gone ao).gone,(P gone ao).cells)).2) (P gone ao).ag (foldI bB 0 ao (dN s (P gone ao).gone,(P gone ao).cells)).1
instance (P:List ak→List ak→qD) (s:aX) (gone ao:List ak):Decidable (BX P s gone ao):=by unfold BX jJ;infer_instance
theorem BX.ok {gone ao:List ak} (h:BX (BC dep ae at_) s gone ao):ahs s dep ae at_ gone ao:=by
 rw[Cm] at h;refine⟨h.1,fun c hc=> ?_,fun c hc sh hs n h1 h2=> ?_,h.2.2⟩
 ·obtain⟨⟨b1,b2,b3⟩,b4,b5,b6,-⟩:=h.2.1 c hc;exact⟨⟨b1,b2,b3⟩,b4,b5,b6⟩
 ·have h3:=(h.2.1 c hc).2.2.2.2 sh hs;unfold bC at h3⊢;simp only[XR,decide_eq_true_eq] at h3⊢;obtain⟨⟨⟨⟨⟨g1,-⟩,g3⟩,g4⟩,g5⟩,g6⟩:=h3;exact⟨⟨⟨⟨⟨g1,h2⟩,g3⟩,g4⟩,g5⟩,g6⟩
def Kj (s:aX) (dep:Nat) (ae:List (Nat×Int)) (at_:List Int) (cs:List ak) (e:aD):Prop:=
 match Bf cs (bz e) with
 |none=>True
 |some c=>e∈c.all∨BX (BC dep ae at_) s [c] (cP 9 c e)
instance (s:aX) (dep:Nat) (ae:List (Nat×Int)) (at_:List Int) (cs:List ak) (e:aD):Decidable (Kj s dep ae at_ cs e):=by unfold Kj;split<;>infer_instance
theorem Kj.ok {e:aD} (h:Kj s dep ae at_ cs e):YV s dep ae at_ cs e:=fun c hc he _=>by
 unfold Kj at h;rw[hc] at h;exact(h.resolve_left he).ok
def Yp:List Int→List (Nat×Int)
 |[]=>[]
 |x::r=>match Yp r with
  |[]=>[(1,x)]
  |(n,y)::l=>if x=y then(n+1,y)::l else(1,x)::(n,y)::l
def chX (s:aX):Nat→Int→List (Int×ay)
 |0,_=>[]
 |f+1,b=>if b=0 then[] else match mJ (s.read b.toNat) with
  |none=>[]
  |some sh=>(b,sh)::chX s f sh.next
def atX (s:aX):List Int:=((List.range 5).map fun i=>s.root (3+i)).filter fun r=>r !=0
def slX (s:aX):List Int:=(atX s).flatMap fun r=>(pB 4 (s.read r.toNat)).getD []
def wS (s:aX):List (Nat×Int):=Yp (slX s)
def Fa (s:aX):Nat:=(slX s).length.log2
def TT (s:aX):List ak:=(List.range (wS s).length).map fun j=>
 ⟨aC (wS s) j*2^(8 - Fa s),Fa s - ((wS s).getD j (0,0)).1.log2,(chX s 30 ((wS s).getD j (0,0)).2).map Prod.fst,(chX s 30 ((wS s).getD j (0,0)).2).map Prod.snd⟩
def Ei (n:Nat):List (List Int):=(iW (List.replicate n iy,[]) (uN n)).1
def YZ (n:Nat):aN:=(qu ((Ei n).getD 0 []) ((Ei n).getD 1 [])).getD aV
def Wb (n:Nat):List Int:=(YZ n).roots.take (mN n)
def M0 (n:Nat) (k:Int) (l:List Int):List (List Int):=l.map fun b=>(pB k ((Ei n).getD b.toNat [])).getD []
def Y0 (n:Nat):List Int:=(M0 n 4 (Wb n)).flatten
def opC (n:Nat):List Int:=(M0 n 5 (Y0 n)).flatten
def Tl (n:Nat):aX:=EP (Ei n) (YZ n) (Y0 n) (Wb n) (opC n)
def Kc (n:Nat) (kind:Int) (m:Nat) (l:List Int):Prop:=
 ∀k,k<l.length→2≤l.getD k 0∧l.getD k 0<n∧pB kind ((Ei n).getD (l.getD k 0).toNat [])=some ((M0 n kind l).getD k [])∧(((M0 n kind l).getD k []).length:Int)=min ((m:Int) - k*61) 61
instance (n:Nat) (kind:Int) (m:Nat) (l:List Int):Decidable (Kc n kind m l):=by unfold Kc;infer_instance
def WM (n:Nat):Prop:=
 (Ei n).length=n∧qu ((Ei n).getD 0 []) ((Ei n).getD 1 [])=some (YZ n)∧(YZ n).blocks=n∧(Wb n).length=mN n∧qE (YZ n) (Wb n)=YZ n∧(Y0 n).length=kN n∧(opC n).length=n∧(∀c∈opC n,0≤c∧c≤65535)∧(∀y∈Y0 n++Wb n,0≤y∧y<n)∧
 ke (aE.of (opC n)) (Y0 n) (Wb n)=true∧Kc n 4 (kN n) (Wb n)∧Kc n 5 n (Y0 n)
instance (n:Nat):Decidable (WM n):=by unfold WM;infer_instance
theorem Kc.ok {kind:Int} {m:Nat} {l:List Int} (hn:(Ei n).length=n) (h:Kc n kind m l):∃ls,IQ (Ei n) kind m l ls∧ls.flatten=(M0 n kind l).flatten:=by
 refine⟨M0 n kind l,⟨by unfold M0;simp,fun x hx=> ?_,fun k hk=> ?_⟩,rfl⟩
 ·obtain⟨k,hk⟩:=List.getElem?_of_mem hx;have si:=(gD [] hk);have h1:=(h k (by have:=si.2;unfold M0 at this;simpa using this)).2.2.2;rw[si.1] at h1;omega
 ·obtain⟨b1,b2,b3,b4⟩:=h k hk;have hi:(l.getD k 0).toNat<(Ei n).length:=by omega
  refine⟨(l.getD k 0).toNat,?_,by omega,hi,(M0 n kind l).getD k [],?_,?_,b4⟩
  ·rw[Xp (by omega),Qe,Qf hk];rfl
  ·have hk3:k<(M0 n kind l).length:=by unfold M0;simpa using hk
   rw[Qe,Qf hk3];rfl
  ·rw[←b3];exact XF _ (by rw[Qe (l:=Ei n),Qf hi];rfl)
theorem WM.opn (h:WM n):IW (Ei n) (YZ n) (Y0 n) (Wb n) (opC n):=by
 obtain⟨a1,a2,a3,a4,a5,a6,a7,a8,a9,a10,a11,a12⟩:=h;exact⟨fun p0 p1 h0 h1=>by rw[←(gD [] h0).1,←(gD [] h1).1];exact a2,by rw[a1];exact a3,by rw[a1];exact a4,by rw[a1];rfl,a5,by rw[a1];exact a6,by rw[a1];exact a7,a8,by rw[a1];exact a9,a10,by rw[a1];exact a11.ok a1,by rw[a1];exact a12.ok a1⟩
def Oh (t:aE):Prop:=1≤t.len∧t.len≤4096∧t.kept.length=t.len∧(∀c∈t.counts,0≤c∧c≤65535)∧(∀o∈t.kept,o.all (fun c=>decide (0≤c∧c≤65535))=true)∧t.cY=(List.range t.len).countP t.free∧t.waits=(List.range t.len).countP t.pD
instance (t:aE):Decidable (Oh t):=by unfold Oh;infer_instance
theorem Oh.ok {t:aE} (h:Oh t):t.Ok:=⟨h.1,h.2.1,h.2.2.1,h.2.2.2.1,fun c hc=>by simpa using h.2.2.2.2.1 _ hc,h.2.2.2.2.2.1,h.2.2.2.2.2.2⟩
def Kd (s:aN):Prop:=s.roots.length=8∧s.marks.length=8∧(0≤s.gen∧s.gen<18446744073709551616)∧(0≤s.blocks∧s.blocks<4294967296)∧(∀x∈s.roots,0≤x∧x<4294967296)∧∀x∈s.marks,0≤x∧x<18446744073709551616
instance (s:aN):Decidable (Kd s):=by unfold Kd;infer_instance
theorem Kd.ok {s:aN} (h:Kd s):bM s:=⟨h.1,h.2.1,h.2.2.1,h.2.2.2.1,h.2.2.2.2.1,h.2.2.2.2.2⟩
def Yn (n:Nat):ri→Bool
 | .wr i data=>decide (i<n)&&data.length==128
 | .fl=>true
def Yf (n:Nat):Prop:=
 (16≤n∧n≤4096∧(fm (aE.new n) 2 (List.replicate (kN n) 0) (List.replicate (mN n) 0)).1=0)∧
 (Oh (cZ n).t∧2≤(cZ n).t.len∧2≤(cZ n).next∧(cZ n).next≤(cZ n).t.len∧(cZ n).pp.length=(cZ n).ag.length∧(cZ n).pd.length=(cZ n).au.length∧(∀y∈(cZ n).ag++(cZ n).au,0≤y∧y<(cZ n).t.len)∧(Bl (cZ n):Int)≤(cZ n).t.room 2)∧
 ((cZ n).t.len=n∧(cZ n).ag.length=kN n∧(cZ n).au.length=mN n)∧
 (Kd (zn n)∧nm (zn n)=true∧Kd (⟨1,n,List.replicate 8 0,List.replicate 8 0⟩:aN)∧∀d∈(cZ n).au,0≤d∧d≤65535)∧(uN n).all (Yn n)=true
instance (n:Nat):Decidable (Yf n):=by unfold Yf;infer_instance
theorem Yf.ok (h:Yf n):UW n:=by
 obtain⟨⟨a1,a2,a3⟩,⟨b1,b2,b3,b4,b5,b6,b7,b8⟩,c,⟨d1,d2,d3,d4⟩,e⟩:=h;refine⟨a1,a2,a3,⟨⟨b1.ok,b2,b3,b4,b5,b6,b7,b8⟩,c⟩,⟨d1.ok,d2,d3.ok,d4⟩,fun s hs=> ?_⟩;have h1:=XT.1 e s hs;cases s with
 |fl=>trivial
 |wr i data=>
  unfold Yn at h1;show i<n∧data.length=128;simpa using h1
def mk1 (n:Nat):Int×Int×aX:=(Tl n).put (encS ⟨0,0,[]⟩)
def Wc (n:Nat):Int×Int×aX:=(mk1 n).2.2.put (encI 4 [(mk1 n).1])
def stB (n:Nat):aX:=((Wc n).2.2.cM 3 (Wc n).1).2
def MkD (n:Nat):Prop:=
 (∀i,i<8→3≤i→(Tl n).root i=0)∧2≤(Tl n).room∧(mk1 n).2.1=0∧(Wc n).2.1=0∧(0≤(mk1 n).1∧(mk1 n).1<65536)∧(2≤(Wc n).1∧(Wc n).1<(Wc n).2.2.t.len)∧(Wc n).2.2.broken=false
instance (n:Nat):Decidable (MkD n):=by unfold MkD;infer_instance
end
section
variable {l xs ys : List Int} {a b i j : Nat}
def qI (xs:List Int) (a i:Nat):Prop:=∀p q,a≤p→p<q→q<i→xs.getD p 0≤xs.getD q 0
def qJ (xs ys:List Int) (a b:Nat):Prop:=ys.length=xs.length∧∀p,p<a∨b≤p→ys.getD p 0=xs.getD p 0
structure Bt (a b:Nat) (xs ys:List Int) (i:Nat):Prop where
 ai:a+1≤i
 ib:i≤b∨i=a+1
 perm:ys.Perm xs
 wo:qJ xs ys a b
 Et:qI ys a i
structure wY (a b i:Nat) (xs ys:List Int) (j:Nat):Prop where
 aj:a≤j
 ji:j≤i
 ib:i<b
 perm:ys.Perm xs
 wo:qJ xs ys a b
 oth:∀p q,a≤p→p<q→q≤i→p≠j→q≠j→ys.getD p 0≤ys.getD q 0
 up:∀q,j<q→q≤i→ys.getD j 0≤ys.getD q 0
theorem sR (l:List Int) (b i:Nat) (y d:Int) (hb:b<l.length):(l.set b y).getD i d=if i=b then y else l.getD i d:=by
 rw[Qe,List.getElem?_set,Qe];by_cases h:i=b
 ·subst h;rw[Xo rfl,Xo hb,Xo rfl];rfl
 ·rw[Xd (Xm h),Xd h]
def jB (l:List Int) (i j:Nat):List Int:=(l.set i (l.getD j 0)).set j (l.getD i 0)
theorem Kr (l:List Int) (i j:Nat):(jB l i j).length=l.length:=by unfold jB;simp
theorem xN (hi:i<l.length) (hj:j<l.length) (p:Nat):(jB l i j).getD p 0=if p=j then l.getD i 0 else if p=i then l.getD j 0 else l.getD p 0:=by
 unfold jB;rw[sR _ _ _ _ _ (by simpa using hj),sR _ _ _ _ _ hi]
theorem Fx (hi:i<l.length) (hj:j<l.length):(jB l i j).Perm l:=by
 have key:∀(l:List Int) (i j:Nat),i<j→j<l.length→((l.set i (l.getD j 0)).set j (l.getD i 0)).Perm l:=by
  intro l i j wJ hj;have e1:l=l.take i++l.getD i 0::(l.drop (i+1)):=by
   conv=>lhs;rw[←XW i l]
   rw[Zd (by omega),Qe,Qf (by omega)];rfl
  obtain⟨A,hA⟩:=eX (l.take i);obtain⟨x,hx⟩:=eX (l.getD i 0);obtain⟨R,hR⟩:=eX (l.drop (i+1));have hAl:A.length=i:=by rw[hA,Qu];omega
  have hRl:R.length=l.length - (i+1):=by rw[hR,Zt]
  obtain⟨k,hk⟩:∃k,j=i+1+k:=⟨j - (i+1),by omega⟩;have hkR:k<R.length:=by omega
  have e2:R=R.take k++R.getD k 0::R.drop (k+1):=by
   conv=>lhs;rw[←XW k R]
   rw[Zd hkR,Qe,Qf hkR];rfl
  have hy:l.getD j 0=R.getD k 0:=by rw[hR,Qe,Qe,Zb,hk]
  obtain⟨y,Zo⟩:=eX (R.getD k 0);rw[←Zo] at hy e2;obtain⟨B,hB⟩:=eX (R.take k);obtain⟨D,hD⟩:=eX (R.drop (k+1));have Nx:B.length=k:=by rw[hB,Qu];omega
  rw[hy,←hx];rw[←hA,←hx,←hR,e2,←hB,←hD] at e1;rw[e1];have s1:(A++x::(B++y::D)).set i y=A++y::(B++y::D):=by rw[ZB _ _ (by omega),hAl,XE];rfl
  have s2:(A++y::(B++y::D)).set j x=A++y::(B++x::D):=by rw[ZB _ _ (by omega),hAl,hk,show i+1+k - i=k+1 by omega,Qc,ZB _ _ (by omega),Nx,XE];rfl
  rw[s1,s2];refine List.Perm.append_left _ ?_;refine((List.perm_middle (a:=x) (l₁:=B) (l₂:=D)).cons y).trans ?_;refine(List.Perm.swap x y _).trans ?_;exact(List.perm_middle (a:=y) (l₁:=B) (l₂:=D)).symm.cons x
 rcases Nat.lt_trichotomy i j with h|h|h
 ·exact key l i j h hj
 ·subst h;have:jB l i i=l:=by
   unfold jB;rw[List.set_set];refine List.ext_getElem (by simp) fun k h1 h2=> ?_
   rw[List.getElem_set];split
   ·rename_i hk
    subst hk;rw[Qe,Qf hi];rfl
   ·rfl
  rw[this]
 ·have h1:=key l j i h hi;unfold jB;rw[List.set_comm _ _ (by omega)];exact h1
theorem PE (h:qJ xs ys a b) (hi:a≤i∧i<b) (hj:a≤j∧j<b) (hil:i<ys.length) (wI:j<ys.length):qJ xs (jB ys i j) a b:=by
 refine⟨by rw[Kr];exact h.1,fun p hp=> ?_⟩;rw[xN hil wI,Xd (by omega),Xd (by omega)];exact h.2 p hp
theorem Bt.start (a b:Nat):Bt a b xs xs (a+1):=⟨Qg _,.inr rfl,List.Perm.refl _,⟨rfl,fun _ _=>rfl⟩,fun p q h1 h2 h3=>by omega⟩
theorem Bt.inner (h:Bt a b xs ys i) (hi:i<b):wY a b i xs ys i:=
 ⟨by have:=h.ai;omega,Qg _,hi,h.perm,h.wo,fun p q h1 h2 h3 h4 h5=>h.Et p q h1 h2 (by omega),fun q h1 h2=>by omega⟩
theorem wY.stop (h:wY a b i xs ys j) (hs:j=a∨¬ys.getD j 0<ys.getD (j - 1) 0) (hai:a+1≤i):Bt a b xs ys (i+1):=by
 refine⟨by omega,.inl (by have:=h.ib;omega),h.perm,h.wo,fun p q h1 h2 h3=> ?_⟩;have h3:q≤i:=by omega
 by_cases hp:p=j
 ·rw[hp] at h2⊢;exact h.up q h2 h3
 ·by_cases hq:q=j
  ·rw[hq] at h2⊢;rcases hs with hs|hs
   ·omega
   ·by_cases hp1:p=j - 1
    ·rw[hp1];omega
    ·have:=h.oth p (j - 1) h1 (by omega) (by have:=h.ji;omega) hp (by omega);omega
  ·exact h.oth p q h1 h2 h3 hp hq
theorem wY.step (h:wY a b i xs ys j) (hj:a<j) (hs:ys.getD j 0<ys.getD (j - 1) 0) (hb:b≤ys.length):wY a b i xs (jB ys j (j - 1)) (j - 1):=by
 have ub:=h.ib;have TB:=h.ji;have g:=fun p=>xN (l:=ys) (i:=j) (j:=j - 1) (by omega) (by omega) p
 refine⟨by omega,by omega,ub,(Fx (by omega) (by omega)).trans h.perm,PE h.wo ⟨by omega,by omega⟩ ⟨by omega,by omega⟩ (by omega) (by omega),fun p q h1 h2 h3 h4 h5=> ?_,fun q h1 h2=> ?_⟩
 ·rw[g,g,Xd h4,Xd h5];by_cases hp:p=j
  ·rw[Xo hp,Xd (by omega)];exact h.oth (j - 1) q (by omega) (by omega) h3 (by omega) (by omega)
  ·rw[Xd hp];by_cases hq:q=j
   ·rw[Xo hq];exact h.oth p (j - 1) h1 (by omega) (by omega) hp (by omega)
   ·rw[Xd hq];exact h.oth p q h1 h2 h3 hp hq
 ·rw[g,g,Xo rfl,Xd (by omega)];by_cases hq:q=j
  ·rw[Xo hq];omega
  ·rw[Xd hq];exact h.up q (by omega) h2
end
end Go.Proofs.YthgdhacopamklaaGreat

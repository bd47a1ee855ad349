/- HashRoom, part 7 of 8: parts of its walks and laws, each true as it stands. -/
import Derived.Test.YtjjomjobllcleaaGreatTAF
set_option maxHeartbeats 16000000
set_option maxRecDepth 100000
set_option linter.all false
namespace Go.Proofs.YtjjomjobllcleaaGreat
open Go.Proofs.Tryz
open List (replicate range)
open Go.RowKit
attribute [local go_sem] Oper.semAt_some
section
variable{W W' w:Wo}{I:bF}{sh:Bool × Nat}{base k:Nat}{v:Va}{ms:List zgk}
def Dc(h:cR W I (stB 200)):uu I (false,0) W/\uu I (true,0) W:=⟨⟨Fd,h⟩,⟨Fd,h⟩⟩
structure IG(w:Wo)(I:bF)(sh:Bool×Nat)(W:Wo):Prop where
 aw:uu I sh W
 new:∀x,BS I x->w<=x
 low:Below w w W
def IG.on(h:IG w I sh W)(hb:ci W W'):IG w I sh W' :=⟨h.aw.on hb,h.new,Pd h.low hb⟩
def IG.step{sh' :Bool×Nat}(h:IG w I sh W)(h2:uu I sh' W')(hc:aG (BS I) W W'):IG w I sh' W' :=⟨h2,h.new,h.low.trans (hc.below h.low.size λx hx e=>absurd (h.new x e) (Nat.not_le.2 hx))⟩
def Mu(hk:k<10)(h:uu I (false,k+1) W):
  Calls prog 45 #[I.b,ip ((k:Int)*1152921504606846976),el W 0 1 1] (W.alloc (.cells #[gc 5] 27)) (iF true λw' =>Below (W.alloc (.cells #[gc 5] 27)).heap.size (W.alloc (.cells #[gc 5] 27)) w') :=by
 refine vk (h.on (aF _ _)) _ (zx false hk).1 [5] [5] (anp k hk) Fd _ ?_ (Qco _) Sv;exact(ar W [gc 5] 27).rw.sl (n:=1) (sz:=1) rfl go Fd
def acw(hk:k<9)(h:jA w base v ms)(hs:iS (ms.map (·.c))=Im (false,k+1)):
  ∃b o c b2 o2 c2 Ae ce,v= el b o 1 c/\jp w b o (ac 0)/\jp w b (o+1) (ac 0)/\jp w b (o+3) (el b2 o2 1 c2)/\jp w b2 (o2+2) (am Ae (k+1) ce):=by
 have e:Im (false,k+1)=[(0,0,[(range (k+1)).map (MN false)])]:=by unfold Im shX;rw[Xo (by show k+1<=9;omega)]
 rw[e] at hs;obtain⟨b,o,c,b2,o2,c2,Ae,ce,g1,g2,g3,g4,g5⟩:=lU h hs (j:=0) rfl;rw[Xz,XC] at g2 g3 g4;rw[Qq,Qbk] at g5;exact⟨b,o,c,b2,o2,c2,Ae,ce,g1,g2,g3,g4,g5⟩
def VR(h:jA w base v ms)(hs:iS (ms.map (·.c))=Im (false,10)):
  ∃b o c b2 o2 c2 Ae ce,v= el b o 2 c/\jp w b o (ac 0)/\jp w b (o+3) (el b2 o2 1 c2)/\jp w b2 (o2+2) (am Ae 8 ce)/\jp w b (o+4) (ac 128)/\jp w b (o+5) (ac 1):=by
 have e:Im (false,10)=[(0,1,[(range 8).map MO]),(128,1,[[MO 8,MO 9]])]:=rfl;rw[e] at hs;obtain⟨b,o,c,b2,o2,c2,Ae,ce,g1,g2,-,g4,g5⟩:=lU h hs (j:=0) rfl;obtain⟨b',o',c',-,-,-,-,-,k1,k2,k3,-,-⟩:=lU h hs (j:=1) rfl;rw[g1] at k1;injection k1 with k1 _ _;injection k1 with k1;injection k1 with k1 k1';subst k1 k1';rw[Xz,XC] at g2 g4;exact⟨b,o,c,b2,o2,c2,Ae,ce,g1,g2,g4,g5,k2,k3⟩
def acv(h:jA w base v ms)(hs:iS (ms.map (·.c))=Im (true,10)):
  ∃b o c b2 o2 c2 Ae ce,v= el b o 1 c/\jp w b (o+1) (ac 0)/\jp w b (o+3) (el b2 o2 2 c2)/\jp w b2 (o2+2) (am Ae 1 ce):=by
 have e:Im (true,10)=[(0,0,[[TR 9],(range 9).map TR])]:=rfl;rw[e] at hs;obtain⟨b,o,c,b2,o2,c2,Ae,ce,g1,-,g3,g4,g5⟩:=lU h hs (j:=0) rfl;rw[Xz,XC] at g3 g4;exact⟨b,o,c,b2,o2,c2,Ae,ce,g1,g3,g4,g5⟩
def Ih(h:uu I (true,10) W):
  Calls prog 45 #[I.b,ip 7,el W 0 10 10] (W.alloc (.cells #[gc 1,gc 2,gc 3,gc 4,gc 5,gc 6,gc 7,gc 8,gc 9,gc 10] 27)) (iF true λw' =>Below (W.alloc (.cells #[gc 1,gc 2,gc 3,gc 4,gc 5,gc 6,gc 7,gc 8,gc 9,gc 10] 27)).heap.size (W.alloc (.cells #[gc 1,gc 2,gc 3,gc 4,gc 5,gc 6,gc 7,gc 8,gc 9,gc 10] 27)) w') :=by
 refine vk (h.on (aF _ _)) _ zcz [10,1,2,3,4,5,6,7,8,9] [1,2,3,4,5,6,7,8,9,10] ano Fd _ ?_ Fd Fd;exact(ar W [gc 1,gc 2,gc 3,gc 4,gc 5,gc 6,gc 7,gc 8,gc 9,gc 10] 27).rw.sl (n:=10) (sz:=1) rfl go Fd
def Mt(h:uu I (true,10) W):
  Calls prog 45 #[I.b,ip 8,()] W (iF true λw' =>ci W w') :=
 vk h _ zcz [] [] ann Fd _ (O0 _ _ _) (Qco _) List.Pairwise.nil
def amW(h:k<10):IntKind.u32.wrap ((k:Int)+1)=(k:Int)+1:=YR
def IG.re{wr:Wo}(h:IG wr I sh W)(hb:ci w wr):IG w I sh W:=⟨h.aw,λx hx=>Qh hb.size (h.new x hx),Pd hb h.low⟩
def ab2(h:k<10):10 - (intOf (gc ((k:Int)+1))).toNat<10 - (intOf (gc (k:Int))).toNat:=by simp only[intOf];omega
def Cc{b:Bool}{P:Prop}(h:some undef=some (Value.bool b)):P:=by unfold undef at h;cases h
def Pl(h:k<10):10 - (intOf (ip ((k:Int)+1))).toNat<10 - (intOf (ip (k:Int))).toNat:=by simp only[intOf];omega
def anu(h:k<9):Int.tdiv (k:Int) 9=0:=Int.tdiv_eq_zero_of_lt Mx Mx
def Ms(w:Wo):Calls prog 12 #[] w (iF true λw' =>ci w w') :=by
 have HB:=aa (yT w 200 Fd Fd Yo);go_in;go_upto_region 2 with(go_at_call 4;refine HB.o.mono ?_;rintro e W1 ⟨I,rfl,h1,n1,l1⟩;have H1:=aa (IG.mk (w:=w) (Dc h1).1 n1 l1);clear h1 n1 l1)
 clear HB;have HM:=aa (VQ H1.o.aw);go_upto_region 4 with(first
  |(go_at_call 16;refine HM.o.mono ?_;rintro e W2 ⟨rfl,b2⟩;have H2:=aa (H1.o.on b2);have HA:=aa (Pv H2.o.aw 1 0 zcz zdv (.inl rfl));clear b2)
  |((go_at_call 8;with_reducible refine HA.o.mono ?_);rintro e W3 ⟨rfl,h3,c3⟩;have H3:=aa (H2.o.step h3 c3);have HA' :=aa (Pv H3.o.aw 1 200 zcz zdv (.inr Fd));clear h3 c3)
  |((go_at_call 8;with_reducible refine HA'.o.mono ?_);rintro e W4 ⟨rfl,h4,c4⟩;have H4:=aa (H3.o.step h4 c4);have HN:=aa (Lk W4);clear h4 c4)
  |(go_at_call 9;refine HN.o.mono ?_;rintro e W5 ⟨rfl,rfl⟩))
 clear HM HA HA' HN;have H0:=aa H4.o;clear H1 H2 H3 H4;go_wp2_with fail;go_loopw [35] (λiv wr=>∃k:Nat,iv= ip k/\Af (k<=10/\IG w I (false,k) wr)) (λiv _=>10 - (intOf iv).toNat)
 .exact⟨0,rfl,Fd,H0.o⟩
 .obtain⟨k,rfl,HR⟩:=hrel;by_cases hk:k<10
  .have Tp:(k:Int)<10:=(by omega);have Hk:=aa hk;have HA:=aa (VT hk HR.q1.aw);clear hk;go_upto_region 7 with fail
   go_upto_region 9 with(first
    |((go_at_call 8;with_reducible refine HA.o.mono ?_);rintro e W5 ⟨rfl,h5,c5⟩;have S5:=aa (HR.q1.step h5 c5);have IF:=aa (Sr Hk.o S5.o.aw);clear h5 c5)
    |((go_at_call 8;with_reducible refine IF.o.mono ?_);rintro e W6 ⟨rfl,h6,c6⟩;have S6:=aa (S5.o.step h6 c6);have HF:=aa (Mu Hk.o S6.o.aw);clear h6 c6)
    |((go_at_call 45;with_reducible refine HF.o.mono ?_);rintro e W7 ⟨rfl,b7⟩;have S7:=aa ((S6.o.on (aF W6 (.cells #[gc 5] 27))).on b7);clear b7))
   have JX:=aa (Pw S7.o.aw);clear HA IF HF;by_cases ZS:k<9
   .have tE:=anu ZS;have k9:(k:Int)<9:=(by omega);have k9b:((k:Int)==9)=false:=Xc Mx;have kw:wrap64 ((k:Int)+1)=(k:Int)+1:=vW;have kwk:wrap64 (k:Int)=(k:Int):=vW;have avI:IntKind.u64.wrap ((k:Int)+1)=(k:Int)+1:=YR;have Hk9:=aa ZS;clear ZS;go_upto_region 10 with(go_at_call 7;refine JX.o.mono ?_;rintro e W8 ⟨v,ms,rfl,o8,s8,b8⟩;obtain⟨b,o,c,b2,o2,c2,Ae,ce,rfl,g1,g2,g3,g4⟩:=acw Hk9.o o8 s8;have S8:=aa (S7.o.on b8);clear o8 s8 b8);dsimp only[List.append];go_wp2_with fail;(all_goals try(exact Cc (by assumption)));all_goals exact⟨⟨k+1,If,Hk.o,S8.o⟩,by first|exact Pl Hk.o|(simp[intOf];omega)⟩
   .have agy :k=9:=(by have:=Hk.o;omega);have⟨SH,hSH⟩:=eX (false,k+1);rw[<-hSH] at JX S7;have HSH:=dK hSH agy;have e9:(k:Int)=9:=Mx;clear ZS agy hSH HR S5 S6;simp only[e9];go_upto_region 10 with(go_at_call 7;refine JX.o.mono ?_;rintro e W8 ⟨v,ms,rfl,o8,s8,b8⟩;obtain⟨b,o,c,b2,o2,c2,Ae,ce,rfl,g1,g2,g3,g4,g5⟩:=VR o8 (s8.trans (XF Im (HSH.p1.trans (by rw[HSH.q1]))));have S8:=aa (S7.o.on b8);clear o8 s8 b8);dsimp only[List.append];go_wp2_with fail;(all_goals try(exact Cc (by assumption)));all_goals exact⟨⟨k+1,by rw[HSH.q1];first|rfl|trivial,Hk.o,by rw[<-HSH.p1];exact S8.o⟩,by first|(simp only[e9];decide)|exact Pl Hk.o|(simp[intOf];omega)⟩
  .have cH:=QE HR.p1 (QC hk);subst cH;have HL:=aa HR.q1.low;have px:=aa (yT wr 200 Fd Fd Yo);clear HR hk;go_upto_region 16 with(go_at_call 4;refine px.o.mono ?_;rintro e W9 ⟨I2,rfl,h9,n9,l9⟩;have H9:=aa (IG.re (IG.mk (w:=wr) (Dc h9).2 n9 l9) HL.o);clear h9 n9 l9);clear px HL;go_wp2_with fail;go_loopw [142] (λiv wz=>∃k:Nat,iv= gc k/\Af (k<=10/\IG w I2 (true,k) wz)) (λiv _=>10 - (intOf iv).toNat)
   .exact⟨0,rfl,Fd,H9.o⟩
   .obtain⟨k,rfl,HR⟩:=hrel;by_cases hk:k<10
    .have Tp:(k:Int)<10:=(by omega);have kw:=amW hk;have HA:=aa (VS hk HR.q1.aw);have Hk:=aa hk;clear hk;go_wp2_with((go_at_call 8;with_reducible refine HA.o.mono ?_);rintro e W5 ⟨rfl,h5,c5⟩;have S5:=aa (HR.q1.step h5 c5);clear h5 c5);all_goals exact⟨⟨k+1,If,Hk.o,S5.o⟩,ab2 Hk.o⟩
    .have cH:=QE HR.p1 (QC hk);subst cH;have JX:=aa (Pw HR.q1.aw);have R:=aa HR.q1;clear HR hk;go_upto_region 23 with(go_at_call 7;refine JX.o.mono ?_;rintro e W8 ⟨v,ms,rfl,o8,s8,b8⟩;obtain⟨b,o,c,b2,o2,c2,Ae,ce,rfl,g1,g2,g3⟩:=acv o8 s8;have S8:=aa (R.o.on b8);have HF:=aa (Ih S8.o.aw);clear o8 s8 b8);try dsimp only[List.append]
     go_wp2_with(first
      |((go_at_call 45;with_reducible refine HF.o.mono ?_);rintro e W9 ⟨rfl,b9⟩;have S9:=aa ((S8.o.on (aF W8 (.cells #[gc 1,gc 2,gc 3,gc 4,gc 5,gc 6,gc 7,gc 8,gc 9,gc 10] 27))).on b9);have HF8:=aa (Mt S9.o.aw);clear b9)
      |((go_at_call 45;with_reducible refine HF8.o.mono ?_);rintro e uh ⟨rfl,wC⟩;have MS:=aa (S9.o.on wC);clear wC))
     go_ret;exact⟨rfl,MS.o.low⟩
def hashRoom_walk(w:Wo)(a:Int)(ha:0<=a/\a<256)(v:Va)(l:List LawE)(hl:LawL w v l):
  Calls prog 3 #[io a,v] w (iF true λw' =>ci w w') :=by
 obtain⟨A,c,rfl,-,-⟩:=hl.1.form;obtain⟨n,hn⟩:∃n:Nat,(n:Int)=20+a%41:=⟨(20+a%41).toNat,Mx⟩;have jU:20<=n/\n<=60:=Mx;obtain⟨s0,b1,b2,jr,Np⟩:=begun_all n Mx Mx;have HBg:=aa (Np w);have H0:=aa jr.hs;have Hn:=aa jU;have HL:=aa hl;have h1:IntKind.i64.wrap a=a:=ww;have⟨r,hr⟩:=eX (a%41);have h2:a.tmod 41=r:=by rw[hr];exact Qil ha.1
 have h3:(20:Int)+r=n:=Mx;have h4:0<=r/\r<41:=Mx;clear hl Np jr jU hn ha hr;go_in;go_upto_region 2 with fail;clear h1 h2 h3 h4;go_upto_region 5 with(go_at_call 4;refine HBg.o.mono ?_;rintro e W1 ⟨I,rfl,q1,nw,b1⟩;have H1:Af (RmS w n I 0 s0 0 _ _ _ W1):=⟨q1,H0.o,nw,b1⟩;clear q1 nw b1);clear HBg;have⟨m,hm⟩:=eX (min l.length 60);have Hm:Af (m<=l.length/\m<=60/\(m=l.length\/m=60)):=⟨Mx,Mx,Mx⟩;have⟨L,hL⟩:=eX l.length;have HLn:=aa hL;rw[<-hL];clear hm hL;go_wp2_with fail;go_loopw [8] (λi wr=>∃(k:Nat) (s:aX) (dep:Nat) (ae:List (Nat×Int)) (at_:Fr) (cs:List ak),i= ac k/\Af (k<=m/\RmS w n I k s dep ae at_ cs wr)) (λi _=>m - (intOf i).toNat)
 .exact⟨0,s0,0,_,_,_,rfl,lm,H1.o⟩
 .obtain⟨k,s,dep,ae,at_,cs,rfl,HR⟩:=hrel;by_cases aJ:k<m
  .have i0:(k:Int)<L:=(by have:=Hm.o;have:=HLn.o;omega);have i1:(k:Int)<60:=Jx;have i2:(0:Int)<=k:=Mx;have fp:wrap64 ((k:Int)+1)=(k:Int)+1:=vW;have eu:=aa fp;obtain⟨⟨pr,bk,cm⟩,hx⟩:∃x,l[k]? =some x:=⟨_,Qf Jx⟩;obtain⟨b,o,q,e1,x0,x1,x2⟩:=HL.o.cells HR.q1.low hx;obtain⟨hu,hbk0,hbk1⟩:=HL.q1 _ (Qi hx);obtain rfl:A=some (an b o):=zdb;have HE:Af (∀W:Wo,Calls prog 5 #[.agg #[ip pr,pK bk,.bool cm],ac n] W (iF (.agg #[ip (entL n pr bk).print,gc (entL n pr bk).block]) λw' =>ci W w')):=λW=>entry_any W pr bk cm n ⟨hbk0,hbk1⟩ wl wl;have hee:0<(entL n pr bk).block/\(entL n pr bk).block<n/\(entL n pr bk).print=pr:=(by unfold entL;have h1:=Qdo bk (show(n:Int) - 1≠0 by have:=Hn.o;omega);have h2:=Qdh bk (show 0<(n:Int) - 1 by have:=Hn.o;omega);exact⟨by show 0<1+_;omega,by show 1+_<(n:Int);omega,rfl⟩);have hue:bI (entL n pr bk).print:=(by rw[hee.2.2];exact hu);have⟨e,he⟩:=eX (entL n pr bk);rw[<-he] at hee hue;simp only[<-he] at HE;have He:=iJ hue hee.1 hee.2.1;have x0:=x0;have x1:=x1;have x2:=x2;have Hx:=aa hx;have bj:=aa aJ;have S1:=aa HR.q1;clear hx e1 hu hbk0 hbk1 hee hue he aJ HR;go_upto_region 9 with(go_at_call 5;refine(HE.o _).mono ?_;rintro e' W2 ⟨rfl,b2⟩;have S2:=aa (S1.o.on b2);clear b2);have Hp:Af (¬BS I W2.heap.size):=λh=>XI _ (S2.o.base.lt _ h);have⟨p,hp⟩:=eX W2.heap.size;have⟨W3,cD⟩:=eX (W2.alloc (.cells #[ip e.print,gc e.block] 29));have X3:Af (aq W3 p 29 [ip e.print,gc e.block]):=(by show aq _ _ _ _;rw[cD,hp];exact ar _ _ _);have S3:Af (RmS w n I k s dep ae at_ cs W3):=(by rw[cD];exact S2.o.on (aF _ _));rw[<-cD,<-hp];rw[<-hp] at Hp;clear cD hp S2 HE;have HRm:=aa (ou W3 I s S3.o.base);have JX:=aa (Ss W3 I s S3.o.base dep ae at_ cs S3.o.hs.hash.inv.ok);go_upto_region 10 with(go_at_call 6;refine HRm.o.mono ?_;rintro e' W4 ⟨rfl,rfl⟩);clear HRm;go_upto_region 11 with(go_at_call 7;refine JX.o.mono ?_;rintro e' W4 ⟨v1,ms,rfl,o4,e4,b4⟩;have S4:=aa (S3.o.on b4);have X4:=aa (X3.o.on b4);have A4:=o4.ls S3.o.base.lt;rw[e4] at A4;have A4:=aa A4;clear o4 e4 b4);clear JX S3 X3;have y0:=X4.o.j0;have y1:=X4.o.j1;have HAd:=aa (vm W4 I s S4.o.base dep ae at_ cs S4.o.hs.hash.ck e He.p1 (show 0<=e.block/\e.block<4294967296 from⟨Qca He.p2,by have:=He.q2;have:=Hn.o;omega⟩) (S4.o.hs.hash.add He.p1 He.p2));rcases S4.o.hs.add e He.p1 He.p2 He.q2 with⟨ha,hr,-⟩|⟨s',Of,segs',at',ks,ha,hs',hr,ha2⟩
   .rw[ha] at HAd;have Hr:=aa hr;clear ha hr;go_upto_region 12 with(go_at_call 8;refine HAd.o.mono ?_;rintro e' W5 ⟨rfl,h5,c5⟩;have S5:=aa (S4.o.step h5 c5 S4.o.hs);have A5:=aa (A4.o.aL c5 λ_ h=>h);clear h5 c5);clear HAd y0 y1 S4 X4 A4;have JX:=aa (Ss W5 I s S5.o.base dep ae at_ cs S5.o.hs.hash.inv.ok);go_upto_region 13 with(go_at_call 7;refine JX.o.mono ?_;rintro e' W6 ⟨v2,ms,rfl,o6,e6,b6⟩;have S6:=aa (S5.o.on b6);have A6:=aa ((A5.o.on b6).mono (T:=λ_=>False) λ_ h=>h.elim);have B6:=o6.ls (S:=λ_=>False) λ_ h=>h.elim;rw[e6] at B6;have B6:=aa B6;clear o6 e6 b6);clear JX S5 A5;go_upto_region 18 with fail
    have HNd:=aa (Lk W6);have HRm:=aa (ou W6 I s S6.o.base);have Ep:=aa (chains_yes W6 v1 v2 cs A6.o B6.o S6.o.hs.hash.inv.ok.small.1 S6.o.hs.hash.inv.ok.small.2);have r0:=Hr.o;go_wp2_with(first
     |(go_at_call 9;refine HNd.o.mono ?_;rintro e' W7 ⟨rfl,rfl⟩)
     |(go_at_call 6;refine HRm.o.mono ?_;rintro e' W7 ⟨rfl,rfl⟩)
     |(go_at_call 10;refine Ep.o.mono ?_;rintro e' W7 ⟨rfl,b7⟩;have S7:=aa (S6.o.on b7);clear b7))
    go_roundw
    .exact⟨k+1,s,dep,ae,at_,cs,xh,bj.o,S7.o.base,S7.o.hs.more (Q0 _),S7.o.new,S7.o.low⟩
    .exact wn
   .rw[ha] at HAd;have Hr:=aa hr;have Ha2:=aa ha2;have Hs' :=aa hs';clear ha hr ha2 hs';have r1:=S4.o.room;go_upto_region 12 with(go_at_call 8;refine HAd.o.mono ?_;rintro e' W5 ⟨rfl,h5,c5⟩;have S5:=aa (S4.o.step h5 c5 Hs'.o);have X5:=aa (X4.o.aL c5 Hp.o);clear h5 c5);clear HAd y0 y1 S4 X4 A4;have JX:=aa (Ss W5 I s' S5.o.base Of segs' at' ks S5.o.hs.hash.inv.ok);go_upto_region 13 with(go_at_call 7;refine JX.o.mono ?_;rintro e' W6 ⟨v2,ms,rfl,o6,e6,b6⟩;have S6:=aa (S5.o.on b6);have X6:=aa (X5.o.on b6);clear o6 e6 b6);clear JX S5 X5;go_upto_region 21 with fail;have HNd:=aa (Lk W6);have HRm:=aa (ou W6 I s' S6.o.base);have r2:=S6.o.room;have hw:wrap64 (s.room - s'.room)=s.room - s'.room:=vW
    have r0:=Hr.o;go_upto_region 24 with(first
     |(go_at_call 9;refine HNd.o.mono ?_;rintro e' W7 ⟨rfl,rfl⟩)
     |(go_at_call 6;refine HRm.o.mono ?_;rintro e' W7 ⟨rfl,rfl⟩))
    clear HRm HNd hw r0 r1 r2;have y0:=X6.o.j0;have y1:=X6.o.j1;have HAd:=vm W6 I s' S6.o.base Of segs' at' ks S6.o.hs.hash.ck e He.p1 (show 0<=e.block/\e.block<4294967296 from⟨Qca He.p2,by have:=He.q2;have:=Hn.o;omega⟩) (S6.o.hs.hash.add He.p1 He.p2);rw[Ha2.o] at HAd;have HAd:=aa HAd;clear X6;go_upto_region 26 with(first
     |(go_at_call 8;refine HAd.o.mono ?_;rintro e' W7 ⟨rfl,h7,c7⟩;have S7:=aa (S6.o.step h7 c7 S6.o.hs);have HRm:=aa (ou W7 I s' S7.o.base);clear h7 c7 y0 y1)
     |(go_at_call 6;refine HRm.o.mono ?_;rintro e' W8 ⟨rfl,rfl⟩))
    clear HAd HRm S6;obtain⟨b',o',q',e1,-,-,z2⟩:=HL.o.cells S7.o.low Hx.o;cases e1;have z2:=z2;have k60:k<=1000:=(by have:=Hm.o;have:=bj.o;omega);have HCm:=commitB_any W7 I s' S7.o.base (S7.o.hs.pre k60);obtain⟨s2,jb,pk,-⟩:=S7.o.hs.commit k60;rw[jb] at HCm;have HCm:=aa HCm;have Hc2:=aa pk;clear k60 jb pk;cases cm with
    |true=>
     go_wp2_with(go_at_call 11;refine HCm.o.mono ?_;rintro e' W8 ⟨rfl,h8,c8⟩;have S8:=aa (S7.o.step h8 c8 Hc2.o);clear h8 c8);go_roundw
     .exact⟨k+1,s2,Of,segs',at',ks,xh,bj.o,S8.o⟩
     .exact wn
    |false=>
     go_wp2_with fail;go_roundw
     .exact⟨k+1,s',Of,segs',at',ks,xh,bj.o,S7.o.base,S7.o.hs.more (Q0 _),S7.o.new,S7.o.low⟩
     .exact wn
  .obtain rfl:k=m:=(by have:=HR.p1;omega);have HAw:=aa (Ms wr);have AK:=aa HR.q1.low;clear HR aJ;have tail:∀e W2,e=Ending.returned (Value.bool true)/\ci wr W2->ci w W2:=λe W2 h=>Pd AK.o h.2;have Ht:=aa tail;by_cases hL:L<=k
   .have i0:(L:Int)<=k:=(by omega);exact zeA
   .have i0:(k:Int)<L:=(by omega);have i1:(60:Int)<=k:=(by have:=Hm.o;have:=HLn.o;omega);exact zeA
end
end Go.Proofs.YtjjomjobllcleaaGreat

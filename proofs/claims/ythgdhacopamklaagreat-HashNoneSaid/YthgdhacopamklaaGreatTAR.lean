/- What HashNone asks, part 18 of 41: parts of the walks and laws, each true as it stands. -/
import Derived.WideKeyEntry
import Derived.Test.YthgdhacopamklaaGreatTAQ
set_option maxHeartbeats 16000000
set_option maxRecDepth 100000
set_option linter.unusedVariables false
set_option linter.unusedSimpArgs false
namespace Go.Proofs.YthgdhacopamklaaGreat
open Go.Proofs.Tryz
section
open Go.RowKit
attribute [local go_sem] Oper.semAt_some
variable {dep f k n s x : Nat}
theorem vX:∀e:Nat,e≤8→Lib.bitLen (2^e)=e+1
 |0,_|1,_|2,_|3,_|4,_|5,_|6,_|7,_|8,_=>by decide+kernel
 |e+9,h=>by omega
theorem acq {i q:Nat} (hi:k=x+i) (h1:k<n) (hn:n≤256) (hf:q≤n):(0:Int)≤k∧(k:Int)<n∧wrap64 ((k:Int)+1)=(k:Int)+1∧wrap64 ((q:Int) - 1)=(q:Int) - 1∧wrap64 ((q:Int)+1)=(q:Int)+1:=by
 unfold wrap64;omega
theorem anB {g:Nat} (h:g+1≤k) (h1:k<x+s) (h2:x+s≤n) (h3:n≤256):(0:Int)≤g∧(g:Int)<n∧wrap64 ((g:Int)+1 - 1)=g∧wrap64 (g:Int)=g:=by
 unfold wrap64;omega
theorem ab1 (g:Nat):(intOf (.int .i64 (g:Int))).toNat<(intOf (.int .i64 ((g+1:Nat):Int))).toNat:=by simp[intOf];try omega
theorem acr {e:Nat} (h:f=x+s) (h2:x+s≤n) (h3:n≤256) (h4:e≤dep) (h5:dep≤8):wrap64 ((f:Int) - x)=s∧IntKind.u64.wrap (s:Int)=s∧wrap64 ((dep:Int)+1)=(dep:Int)+1∧wrap64 ((dep:Int)+1 - ((e+1:Nat):Int))=((dep - e:Nat):Int):=by
 unfold wrap64 IntKind.wrap;simp[IntKind.signed,IntKind.bits];omega
theorem anC (h5:dep≤8):wrap64 (dep:Int)=dep:=by
 unfold wrap64;omega
theorem anA (h:x+s≤n) (h2:n≤256):(s:Int)≤18446744073709551615:=by omega
theorem ag4 (h:f<x+s) (h2:x+s≤n) (h3:n≤256):(f:Int)<n∧f<n∧wrap64 ((f:Int)+1)=(f:Int)+1:=by
 unfold wrap64;omega
theorem nT (w:Wo) (dep:Nat) (ae:List (Nat×Int)) (hs:eQ dep ae) (v:Va) (hv:Ns w w.heap.size .u16 v (expand ae)) (j i e:Nat) (s:Nat×Int) (lA:ae[j]? =some s) (hi:i<s.1) (he:s.1=2^e):
  Calls prog 123 #[.agg #[.int .u8 dep,v],.int .i64 (aC ae j+i:Nat)] w fun e' w' =>e' = .returned (.tuple #[.int .i64 (aC ae j),.int .i64 (dep - e:Nat)])∧Below w.heap.size w w' :=by
 obtain⟨A,c,rfl,-,-⟩:=hv.form;obtain⟨n,hn⟩:=eX ((expand ae).length);obtain⟨x,hx⟩:=eX (aC ae j);obtain⟨k,hk⟩:=eX (x+i);have hle:=fH ae (j+1);rw[bH ae j s lA,←hx,←hn] at hle;have xG:n≤256:=by rw[hn];exact hs.len
 have cH:k<n:=by omega
 obtain⟨b,o,c',mQ,-,-,hb,aH⟩:=hv.cells (by omega);rw[←hn] at mQ aH hv⊢;obtain rfl:A=some ⟨b,o,none⟩:=by injection mQ
 have iO:∀q,x≤q→q<x+s.1→w.cell? ⟨b,o+q,none⟩=some (.int .u16 s.2):=fun q h1 h2=>by have h3:=eh ae j s lA (q - x) (by omega);rw[←hx,show x+(q - x)=q by omega] at h3;rw[aH q (by omega),Qe,h3];rfl
 have hah:x=0∨∃y,w.cell? ⟨b,o+(x - 1),none⟩=some (.int .u16 y)∧y≠s.2:=by
  rcases hs.ahead lA with h1|⟨y,h1,h2⟩
  ·exact .inl (hx.trans h1)
  ·rw[←hx] at h1;refine .inr ⟨y,?_,h2⟩;rw[aH (x - 1) (by omega),Qe,h1];rfl
 have fu:x+s.1=n∨∃y,w.cell? ⟨b,o+(x+s.1),none⟩=some (.int .u16 y)∧y≠s.2:=by
  rcases hs.next lA with h1|⟨y,h1,h2⟩
  ·rw[←hx,←hn] at h1;exact .inl h1
  ·rw[←hx] at h1;refine .inr ⟨y,?_,h2⟩;rw[aH (x+s.1) (by rw[hn];exact(Ql.1 h1).1),Qe,h1];rfl
 obtain⟨W0,aY⟩:=eX (w.alloc (.cells #[.int .u8 dep,.slice (some ⟨b,o,none⟩) n c] 133));have X0:Af (aq W0 w.heap.size 133 (uD dep (.slice (some ⟨b,o,none⟩) n c))):=by show aq _ _ _ _;rw[aY];exact ar w [_,_] _
 have B0:Af (Below w.heap.size w W0):=by rw[aY];exact aF _ _
 have fD:=aa aY.symm;obtain⟨e',agL,aa8,-⟩:=hs.two j s lA;have hee:e=e' :=by rw[he] at aa8;exact(Nat.pow_right_inj (by decide)).1 aa8
 have iu:=hI7 (by omega:x≤k) (by omega:k<x+s.1) hle xG (by rw[hee];exact agL:e≤dep) hs.d8 he;have zu:=aa iO;have Hah:=aa hah;have NI:=aa fu;have Hb:=aa hb;obtain⟨i0,i1,nZ,-,-⟩:=acq hk cH xG (Qg n);rw[←hx,←hk];clear hv mQ aH iO hah fu aY lA hi he hs hn hk hle hb hee agL aa8 xG cH hx;go_enter func123,ntmps123;go_upto_region 1 with fail
 rw[fD.o];go_upto_block 0 with fail
 go_cut [6] from 8 to 59 (fun v6 W=>v6= .int .i64 x∧Af (Below W0.heap.size W0 W))
 case first=>
  go_wp2_with fail;go_loopw [6] (fun fv wr=>∃f:Nat,fv= .int .i64 f∧Af (x≤f∧f≤k∧Below W0.heap.size W0 wr)) (fun fv _=>(intOf fv).toNat)
  case atStart=>exact⟨k,rfl,iu.o.1,Qg _,Xj _ _⟩
  case round=>
   obtain⟨f,rfl,HR⟩:=hrel;have d1:wr.cell? ⟨w.heap.size,1,none⟩=some (.slice (some ⟨b,o,none⟩) n c):=(X0.o.on HR.o.2.2).cell rfl;have Ed:∀q,wr.cell? ⟨b,o+q,none⟩=w.cell? ⟨b,o+q,none⟩:=fun q=>(B0.o.trans (HR.o.2.2.mono B0.o.size)).cell (p:=⟨b,o+q,none⟩) Hb.o
   have jV:=(Ed k).trans (zu.o k iu.o.1 iu.o.2.1);cases f with
   |zero=>
    have gd:=Nat.le_zero.1 HR.o.1;have HB:=aa HR.o.2.2;clear HR Ed jV;rw[show((0:Nat):Int)=(0:Int) from rfl];go_wp2_with fail;go_quiet (fail);go_wp2_with fail;go_meet;exact⟨by rw[gd];rfl,below_drewN HB.o _⟩
   |succ g=>
    obtain⟨g0,g1,avJ,hwg⟩:=anB HR.o.2.1 iu.o.2.1 iu.o.2.2.1 iu.o.2.2.2.1;have HRh:=aa HR.o;by_cases JE:x≤g
    ·have MH:=(Ed g).trans (zu.o g JE (Nat.lt_trans (Qn (XL g) HR.o.2.1) iu.o.2.1));have Ue:=aa JE;clear HR Ed JE;go_wp2_with fail;go_quiet (fail);go_wp2_with fail;go_roundw
     case rel=>exact⟨g,by rw[hwg],Ue.o,Nat.le_of_succ_le HRh.o.2.1,below_drewN HRh.o.2.2 _⟩
     case measure=>rw[hwg];exact ab1 g
    ·have pf:=QE HR.o.1 (Nat.lt_of_not_le JE);have hy:∃y,w.cell? ⟨b,o+g,none⟩=some (.int .u16 y)∧y≠s.2:=by
      rcases Hah.o with h1|h1
      ·rw[pf] at h1;exact absurd h1 (Nat.succ_ne_zero g)
      ·rw[pf,Nat.add_sub_cancel] at h1;exact h1
     obtain⟨y,Tr,hy2⟩:=hy;have MH:=(Ed g).trans Tr;have Io:=Xc hy2;have Hxe:=aa pf;clear HR Ed JE pf Tr hy2;go_wp2_with fail;go_quiet (fail);go_wp2_with fail;go_meet;exact⟨by rw[Hxe.o],below_drewN HRh.o.2.2 _⟩
 case rest=>
  obtain⟨rfl,wP⟩:=hcut;go_wp2_with fail;rw[nZ];go_loopw [7] (fun tv wr=>∃f:Nat,tv= .int .i64 f∧Af (k<f∧f≤x+s.1∧Below W0.heap.size W0 wr)) (fun tv _=>n - (intOf tv).toNat)
  case atStart=>exact⟨k+1,by first|rfl|(rw[nZ];rfl),XL k,iu.o.2.1,wP.o⟩
  case round=>
   obtain⟨f,rfl,HR⟩:=hrel;have d1:wr.cell? ⟨w.heap.size,1,none⟩=some (.slice (some ⟨b,o,none⟩) n c):=(X0.o.on HR.o.2.2).cell rfl;have Ed:∀q,wr.cell? ⟨b,o+q,none⟩=w.cell? ⟨b,o+q,none⟩:=fun q=>(B0.o.trans (HR.o.2.2.mono B0.o.size)).cell (p:=⟨b,o+q,none⟩) Hb.o
   have jV:=(Ed k).trans (zu.o k iu.o.1 iu.o.2.1);have f0:=Xh f;have HRh:=aa HR.o;by_cases hf:f<x+s.1
   ·obtain⟨k1,k1n,hwf⟩:=ag4 hf iu.o.2.2.1 iu.o.2.2.2.1;have SP:=(Ed f).trans (zu.o f (QX (QO iu.o.1 HR.o.1)) hf);have Hf:=aa hf;have Hk1:=aa k1n;clear HR Ed hf;go_wp2_with fail;go_quiet (fail);go_wp2_with fail;go_roundw
    case rel=>exact⟨f+1,by first|rfl|(rw[hwf];rfl),Nat.lt_succ_of_lt HRh.o.1,Hf.o,below_drewN HRh.o.2.2 _⟩
    case measure=>first|exact al Hk1.o|(rw[hwf];exact al Hk1.o)
   ·have hfe:=QE HR.o.2.1 (QC hf);have Hfe:=aa hfe;obtain⟨am7,hwu,JO,TH⟩:=acr (dep:=dep) (e:=e) hfe iu.o.2.2.1 iu.o.2.2.2.1 iu.o.2.2.2.2.1 iu.o.2.2.2.2.2.1;have TI:=anC iu.o.2.2.2.2.2.1;obtain⟨E,hE⟩:=eX (e+1);obtain⟨D,hD⟩:=eX (dep - e);obtain⟨S,hS⟩:=eX s.1;have HE:∀(W:Wo) q,Calls prog 121 #[.int .u64 s.1] (W.drewN q) fun e' DW =>e' = .returned (.int .i64 (e+1:Nat))∧∃m,DW =W.drewN m:=fun W q=>Calls.quiet_of_same ((Tryz.bits_Len s.1 (W.drewN q) (Xh _) (anA iu.o.2.2.1 iu.o.2.2.2.1)).mono fun e' w' h=>by rw[Xt,iu.o.2.2.2.2.2.2,vX e (Qh iu.o.2.2.2.2.1 iu.o.2.2.2.2.2.1)] at h;exact⟨h.1,h.2⟩)
    have d0:wr.cell? ⟨w.heap.size,0,none⟩=some (.int .u8 dep):=(X0.o.on HR.o.2.2).cell rfl;rw[←hE] at HE TH;rw[←hS] at HE am7 hwu;rw[←hD] at TH;have HE:=aa HE;have HD:=aa hD;have B2:=aa (B0.o.trans (HR.o.2.2.mono B0.o.size));have nx:(f=n)∨∃y,wr.cell? ⟨b,o+f,none⟩=some (.int .u16 y)∧(y==s.2)=false:=by
     rcases NI.o with h1|⟨y,h1,h2⟩
     ·exact .inl (hfe.trans h1)
     ·exact .inr ⟨y,(Ed f).trans (by rw[hfe];exact h1),Xc h2⟩
    rcases nx with h1|⟨y,h1,h2⟩
    ·have Nj:¬f<n:=by rw[h1];exact XI n
     clear HR Ed hf hfe h1 hE hD hS;go_wp2_with fail;go_quiet (fail);go_wp2_with fail;obtain⟨W2,cE⟩:=eX (wr.drewN nq);have C2:Af (Below w.heap.size w W2):=by rw[cE];exact below_drewN B2.o _
     have d02:W2.cell? ⟨w.heap.size,0,none⟩=some (.int .u8 dep):=by rw[cE];exact d0
     have HQ:=aa (HE.o W2);rw[←cE];clear cE d0 d1 jV HE;go_quiet ((go_at_call 121;with_reducible exact HQ.o _));go_wp2_with fail;go_ret2;exact⟨by rw[←HD.o];show Ending.returned (.tuple #[.int .i64 x,.int .i64 (wrap64 ((dep:Int)+1 - E))])=_;rw[TH],below_drewN C2.o _⟩
    ·clear HR Ed hf hfe hE hD hS;by_cases Nj:f<n
     ·go_wp2_with fail;go_quiet (fail)
      go_wp2_with fail;obtain⟨W2,cE⟩:=eX (wr.drewN nq);have C2:Af (Below w.heap.size w W2):=by rw[cE];exact below_drewN B2.o _
      have d02:W2.cell? ⟨w.heap.size,0,none⟩=some (.int .u8 dep):=by rw[cE];exact d0
      have HQ:=aa (HE.o W2);rw[←cE];clear cE d0 d1 jV HE;go_quiet ((go_at_call 121;with_reducible exact HQ.o _));go_wp2_with fail;go_ret2;exact⟨by rw[←HD.o];show Ending.returned (.tuple #[.int .i64 x,.int .i64 (wrap64 ((dep:Int)+1 - E))])=_;rw[TH],below_drewN C2.o _⟩
     ·clear h1 h2;go_wp2_with fail;go_quiet (fail);go_wp2_with fail;obtain⟨W2,cE⟩:=eX (wr.drewN nq);have C2:Af (Below w.heap.size w W2):=by rw[cE];exact below_drewN B2.o _
      have d02:W2.cell? ⟨w.heap.size,0,none⟩=some (.int .u8 dep):=by rw[cE];exact d0
      have HQ:=aa (HE.o W2);rw[←cE];clear cE d0 d1 jV HE;go_quiet ((go_at_call 121;with_reducible exact HQ.o _));go_wp2_with fail;go_ret2;exact⟨by rw[←HD.o];show Ending.returned (.tuple #[.int .i64 x,.int .i64 (wrap64 ((dep:Int)+1 - E))])=_;rw[TH],below_drewN C2.o _⟩
end
section
open Go.RowKit
attribute [local go_sem] Oper.semAt_some
structure BW (s:aX) (dep:Nat) (ae:List (Nat×Int)) (at_:List Int):Prop where
 oH:eQ dep ae
 np:(at_.length:Int)=aR (2^dep:Nat)
 rt:∀i,i<at_.length→s.root (3+i)=at_.getD i 0∧∃k:Nat,at_.getD i 0=k∧2≤k∧k<s.t.len∧pB 4 (s.read k)=some (bG (expand ae) i)
 no:∀i,at_.length≤i→i<5→s.root (3+i)=0
 deep:∃sg∈ae,sg.1=1
theorem BW.af6 {s:aX} {dep:Nat} {ae:List (Nat×Int)} {at_:List Int} (h:BW s dep ae at_):1≤at_.length∧at_.length≤5:=by
 have h1:=h.np;have h2:=rz h.oH.d8;unfold aR at h1;rw[Xd (by omega)] at h1;omega
theorem yl (w:Wo) (I:bF) (s:aX) (h:cR w I s) (i:Nat) (hi:i<s.t.len):
  Calls prog 120 #[.pointer (some ⟨I.b,0,none⟩),.int .i64 i] w fun e w' =>∃v,e= .returned (.tuple #[v,.int .i64 0])∧Bs w' w'.heap.size v (s.read i)∧(∀b o n c,v= .slice (some ⟨b,o,none⟩) n c→w.heap.size≤b)∧Below w.heap.size w w' :=by
 have HR:=aa (KM w I s h i hi);clear h hi;go_enter func120,ntmps120;go_wp2_with(go_at_call 32;go_must(refine HR.o.mono ?_);rintro e W2 ⟨v,rfl,h2,h3,h4⟩;have H2:=aa h2;have H3:=aa h3;have H4:=aa h4;clear h2 h3 h4);go_ret2;exact⟨v,rfl,H2.o,H3.o,H4.o⟩
theorem la (w:Wo) (I:bF) (s:aX) (h:cR w I s) (hb:s.broken=false):
  Calls prog 59 #[.pointer (some ⟨I.b,0,none⟩)] w fun e w' =>e= .returned (.int .i64 0)∧w=w' :=by
 have HB:=aa (dI w I s h);have HK:=DT w I s h;rw[hb] at HK;have HK:=aa HK;have hn:=h.n0;have n0:((s.t.len:Int)==0)=false:=Xc (by omega);generalize s.t.len=n at*;clear h hb hn;go_enter func59,ntmps59;go_wp2_with(first
  |(go_at_call 60;go_must(refine HB.o.mono ?_);rintro e W2 ⟨rfl,rfl⟩)
  |(go_at_call 127;go_must(refine HK.o.mono ?_);rintro e W2 ⟨rfl,rfl⟩))
 go_ret;exact⟨rfl,rfl⟩
theorem zM (w:Wo) (v:Va) (h:JQ w v):
  Calls prog 59 #[v] w fun e w' =>e= .returned (.int .i64 1)∧w=w' :=by
 have HB:=aa (vW w v h);have hv:∃a,v= .pointer a:=by rcases h with rfl|⟨b,rfl,-⟩<;>exact⟨_,rfl⟩
 obtain⟨a,rfl⟩:=hv;clear h;go_enter func59,ntmps59;go_wp2_with(go_at_call 60;go_must(refine HB.o.mono ?_);rintro e W2 ⟨rfl,rfl⟩);go_ret;exact⟨rfl,rfl⟩
end
section
open Go.RowKit
attribute [local go_sem] Oper.semAt_some
variable {w : Wo} {b i j j' n np q : Nat} {x0 x1 : Va}
theorem cR.FU {I:bF} {s:aX} (h:cR w I s) (hi:i<s.t.len):(s.read i).length=128∧∀x∈s.read i,aI x:=by
 unfold aX.read;cases hf:s.fresh.getD i none with
 |some data=>
  rw[Qe] at hf;cases hg:s.fresh[i]? with
  |none=>rw[hg] at hf;cases hf
  |some o=>
   rw[hg] at hf;simp at hf;subst hf;exact h.ok.fd data (Qi hg)
 |none=>
  have ub:i<s.bl.length:=by rw[h.ok.bl];exact hi
  rw[Option.getD_none,Qe,Qf ub];exact⟨h.dM.size _ (QI _),h.dM.byte _ (QI _)⟩
theorem iT {b' e e' s s' n' :Nat} {v v' :Va} {xs VY :List Va} (h:w.ownsRow b e s v n xs) (k:w.ownsRow b' e' s' v' n' VY) (he:e≠e'):v.ownBlock=none∨v.ownBlock≠v'.ownBlock:=by
 rcases h.2 with⟨rfl,_⟩|⟨g,cap,cur,rfl,_,h1,_⟩
 ·exact .inl rfl
 ·refine .inr fun e1=> ?_
  rcases k.2 with⟨rfl,_⟩|⟨g',rr,anw,rfl,_,h2,_⟩
  ·cases e1
  ·cases e1
   rw[h1] at h2;injection h2 with h2
   injection h2 with _ h3
   exact he h3
theorem anv {k:Int} (hk:k=4∨k=5) {p l:List Int} (hb:∀x∈p,aI x) (hd:pB k p=some l) (W:Wo) (v:Va) (hv:Bs W W.heap.size v p):Calls prog 88 #[.int .u8 k,v] W fun e w' =>∃v',e= .returned (.tuple #[v',.int .i64 0])∧aB w' W.heap.size 61 .u16 v' l∧Below W.heap.size W w' :=
 (Js W k hk v p hv (vS hd hb).2.2).mono fun e w' ⟨hb,h1⟩=>(by
  rcases h1 with⟨h2,-⟩|⟨l',v',h2,h3,h4⟩
  ·rw[hd] at h2;cases h2
  ·rw[hd] at h2;cases h2;exact⟨v',h3,h4,hb⟩)
structure abr (w:Wo) (ae:List (Nat×Int)) (at_:List Int) (rb db:Nat) (av:Va) (q:Nat) (wr:Wo):Prop where
 le:q≤5
 res:aq wr rb 133 (uD 0 (.slice none 0 0))
 dir:∃A n c,aq wr db 133 (uD 0 (.slice A n c))∧aB wr w.heap.size 61 .u16 (.slice A n c) ((expand ae).take (61*q))
 at_:aB wr w.heap.size 3 .i64 av (at_.take q)
 low:Below w.heap.size w wr
theorem Pg (hq:q<5):(3:Int)+q<8∧(0:Int)≤3+(q:Int)∧wrap64 ((3:Int)+q+1)=3+(q:Int)+1∧wrap64 (q:Int)=q∧3+q<8:=by
 unfold wrap64;omega
theorem zK (h:q<5):8 - (intOf (.int .i64 (3+(q:Int)+1))).toNat<8 - (intOf (.int .i64 (3+(q:Int)))).toNat:=by simp[intOf];omega
theorem Vj (h:(np:Int)=aR n) (hq:q<np):61*q<n:=by
 unfold aR at h;split at h<;>omega
theorem abT (h:(np:Int)=aR n) (hq:np≤q):n≤61*q:=by
 unfold aR at h;split at h<;>omega
theorem abS {N dep:Nat} (h:N=2^dep) (h2:N≤256) (h3:dep≤8):(0:Int)<N∧wrap64 (((dep+1:Nat):Int) - 1)=dep∧IntKind.u8.wrap (dep:Int)=dep∧IntKind.u64.wrap (N:Int)=N∧(N:Int)≤18446744073709551615:=by
 have:0<N:=by rw[h];exact Nat.two_pow_pos dep
 clear h;unfold wrap64 IntKind.wrap;simp[IntKind.signed,IntKind.bits];omega
theorem ve (h:aq w b 133 [x0,x1]):(loadVar 133 ⟨b,0,none⟩).run prog w= .ok (.agg #[x0,x1]) w:=by
 have hl:=run_loadCells_list (P:=prog) w ⟨b,0,none⟩ [x0,x1] (fun j v hj=>by rw[dP,QR];exact h.cell hj);simp only[QF,Xq,QR,Nat.reduceAdd] at hl;have h2:(isAgg 133).run prog w= .ok true w:=by kernel_rfl
 have h3:(sizeOf 133).run prog w= .ok 2 w:=by kernel_rfl
 simp[loadVar,hl,h2,h3,Result.andThen]
theorem OB {g:Nat} {e:TypeId} (h:aq w g e [x0,x1]) (y0 y1:Va):aq ((w.setCell ⟨g,0,none⟩ y0).setCell ⟨g,1,none⟩ y1) g e [y0,y1]:=(h.set 0 y0).set 1 y1
theorem U5 (m:Nat) (h:m≤8):wrap64 (m:Int)=m:=by unfold wrap64;omega
theorem Rt (m D:Nat):max (m:Int) (D:Int)=((max m D:Nat):Int):=by omega
theorem me (ae:List (Nat×Int)) (h:j≤j'):aC ae j≤aC ae j' :=by
 obtain⟨d,rfl⟩:=Nat.exists_eq_add_of_le h;unfold aC;rw[List.take_add,QL,List.sum_append];exact XM _ _
theorem PO {ae:List (Nat×Int)} {i' :Nat} {s s' :Nat×Int} (hj:ae[j]? =some s) (Eg :ae[j']? =some s') (hi:i<s.1) (hi' :i' <s'.1) (h:aC ae j+i=aC ae j' +i'):j=j' :=by
 rcases Nat.lt_trichotomy j j' with h1|h1|h1
 ·have h2:=me ae h1;rw[bH ae j s hj] at h2;omega
 ·exact h1
 ·have h2:=me ae h1;rw[bH ae j' s' Eg] at h2;omega
theorem KX (L:List Int) (q:Nat):L.take (61*(q+1))=L.take (61*q)++bG L q:=by
 unfold bG;rw[show 61*(q+1)=61*q+61 by omega,List.take_add]
theorem oz (w:Wo) (I:bF) (s:aX) (h:cR w I s) (dep:Nat) (ae:List (Nat×Int)) (at_:List Int) (hd:BW s dep ae at_):
  Calls prog 55 #[.pointer (some ⟨I.b,0,none⟩)] w fun e w' =>∃v av,e= .returned (.tuple #[.agg #[.int .u8 dep,v],av,.int .i64 0])∧aB w' w.heap.size 61 .u16 v (expand ae)∧aB w' w.heap.size 3 .i64 av at_∧Below w.heap.size w w' :=by
 obtain⟨W0,aY,-,b0⟩:=nW w [.int .u8 0,.slice none 0 0] 133;obtain⟨W1,aW⟩:∃y,y=W0.alloc (.cells #[.int .u8 0,.slice none 0 0] 133):=⟨_,rfl⟩;have r0:aq W0 w.heap.size 133 (uD 0 (.slice none 0 0)):=by rw[aY];exact ar w [_,_] _
 have b1:Below W0.heap.size W0 W1:=by rw[aW];exact aF _ _
 obtain⟨db,iU⟩:∃z,z=W0.heap.size:=⟨_,rfl⟩;have d1:aq W1 db 133 (uD 0 (.slice none 0 0)):=by rw[aW,iU];exact ar W0 [_,_] _
 have Hdb:Af (w.heap.size<db):=by show _<_;rw[iU];exact r0.lt
 have WL:=b0.trans (b1.mono b0.size);have rj:Af (abr w ae at_ w.heap.size db (.slice none 0 0) 0 W1):=⟨by decide,r0.on b1,⟨none,0,0,d1,cQ _ _ _ _⟩,cQ _ _ _ _,WL⟩;have fD:=aa aY.symm;have gB:=aa aW.symm;have H:=aa h;have HD:=aa hd;have HB:=aa (fun (W:Wo) (hW:Below w.heap.size w W)=>dI W I s (h.on hW));have n0:((s.t.len:Int)==0)=false:=Xc (by have:=h.n0;omega);have HR:=aa (fun (W:Wo) (hW:Below w.heap.size w W) (i:Nat) (hi:i<8)=>ot W I s (h.on hW) i hi);have MJ:=HB.o W1 WL;have Yd:=aa MJ;have Bw:=aa iU.symm;clear h hd aY aW r0 b0 b1 iU d1 WL MJ;go_enter func55,ntmps55;go_upto_region 1 with fail
 change Code.wp _ _ _ _ (w.alloc (.cells #[.int .u8 0,.slice none 0 0] 133));rw[fD.o];go_upto_region 2 with fail
 change Code.wp _ _ _ _ (W0.alloc (.cells #[.int .u8 0,.slice none 0 0] 133));rw[gB.o,Bw.o];clear fD gB Bw;go_wp2_with(go_at_call 60;go_must(refine Yd.o.mono ?_);rintro e W2 ⟨rfl,rfl⟩);clear n0 Yd;go_loopw [6,7] (fun av i wr=>∃q:Nat,i= .int .i64 (3+(q:Int))∧Af (abr w ae at_ w.heap.size db av q wr)) (fun _ i _=>8 - (intOf i).toNat)
 case atStart=>exact⟨0,rfl,rj.o⟩
 case round=>
  obtain⟨q,rfl,HS⟩:=hrel;obtain⟨Aa,na,ca,rfl⟩:=HS.o.at_.bu;by_cases hq:q<5
  ·obtain⟨i8,i0,nZ,hwq,hi8⟩:=Pg hq;have Hwq:=aa hwq;have El:=aa nZ;have q5:(q:Int)<5:=by omega
   have q0:(0:Int)≤q:=by omega
   clear hwq nZ;have mn:=aa (HR.o wr HS.o.low (3+q) hi8);rw[show((3+q:Nat):Int)=3+(q:Int) from rfl] at mn;have Hq:=aa hq;by_cases ei:q<at_.length
   ·obtain⟨Wj,k,hk1,si,bQ,Ee⟩:=HD.o.rt q ei;rw[hk1] at Wj;rw[Wj] at mn;have SK:((k:Int)==0)=false:=Xc (by omega);have EJ:=aa (yl wr I s (H.o.on HS.o.low) k bQ);have ft:=H.o.FU bQ;have HDc:=aa (fun W v hv=>anv (.inl rfl) ft.2 Ee W v hv);obtain⟨Ad,nd,cd,iU,bN⟩:=HS.o.dir;have UD:=Vj HD.o.np ei;rw[←HD.o.oH.sum] at UD;have hSl:((expand ae).take (61*q)).length=61*q:=by rw[Qu];exact Zh (QX UD)
    have hAl:(at_.take q).length=q:=by rw[Qu];exact Zh (QX ei)
    have im:nd=61*q:=by obtain⟨A',c',e,-⟩:=bN.ns.form;rw[hSl] at e;injection e
    have Ez:na=q:=by obtain⟨A',c',e,-⟩:=HS.o.at_.ns.form;rw[hAl] at e;injection e
    subst Ez;have hL:Int.tmod (nd:Int) 61=0:=by rw[im,show(61:Int)=((61:Nat):Int) from rfl,←Int.ofNat_tmod,Nat.mul_mod_right];rfl
    have hak:at_[na]? =some (k:Int):=by rw[Qf ei,←hk1,Qe,Qf ei];rfl
    have tH:=aa (aA at_ na _ hak);have Hpt:=aa (KX (expand ae) na);have lD:Af (((expand ae).take (61*na)).length+(bG (expand ae) na).length≤1000000∧(at_.take na).length≤100000):=by refine⟨?_,by rw[hAl];exact Qh (QX hq) (by decide)⟩;rw[hSl];exact Qh (Nat.add_le_add (Qh (QX UD) HD.o.oH.len) (yk _ _)) (by decide)
    have HO:=aa bN;have Ye:=aa HS.o.at_;have HDb:=aa iU;have WU:=aa HS.o.res;have HL:=aa HS.o.low;clear Wj hk1 si bQ Ee ft bN iU UD hSl hAl im hak ei hq HS;go_upto_region 14 with(first
     |(go_at_call 70;go_must(refine mn.o.mono ?_);rintro e W2 ⟨rfl,rfl⟩)
     |(go_at_call 120;go_must(refine EJ.o.mono ?_);rintro e W2 ⟨pv,rfl,p2,p3,b2⟩;obtain⟨Ap,cp,rfl,-,-⟩:=p2.1.form;have B2:=aa b2;have HDd:=aa (HDc.o W2 _ p2);clear p2 p3 b2)
     |(go_at_call 88;go_must(refine HDd.o.mono ?_);rintro e W3 ⟨lv,rfl,o3,b3⟩;obtain⟨Al,nl,cl,rfl⟩:=o3.bu;have O3:=aa o3;have B3:=aa (B2.o.trans (b3.mono B2.o.size));clear o3 b3))
    have D3:=aa (HDb.o.on B3.o);have z1:=D3.o.cell (j:=1) rfl;have f1:=D3.o.free 1;have O3n:=aa O3.o.ns;have NM:=aa (HO.o.on B3.o);have Xk:=aa (HL.o.trans (B3.o.mono HL.o.size));have aho:=aa (Ye.o.on B3.o);have IC:=aa (WU.o.on B3.o);have hwq:=Hwq.o;have he3:((3:Int)+(na:Int) - 3)=na:=by omega
    clear HDc EJ mn HDd i8 i0 hi8;go_wp2_with(first
     |(at_builtin;(with_reducible refine wl_appNs NKw (os:= .tmp 62) (ox:= .tmp 63) w.heap.size _ _ NM.o _ _ O3n.o ?_ ?_ ?_ ?_ ?_);go_must((·exact lD.o.1);(·exact Xk.o.size);(·rfl);(·rfl);intro v5 W5 o5 g5;obtain⟨A5,n5,c5,rfl⟩:=o5.bu;have O5:=aa (o5.on (aF W5 (.cells #[.int .i64 k] 3)));have L5:=aa ((Xk.o.grown g5 Xk.o.size (fun j e=>(Xr NM.o j e).1)).trans ((aF W5 (.cells #[.int .i64 k] 3)).mono (Qh Xk.o.size g5.size)));have At5:=aa (aB.on (World.ownsRow.kept aho.o g5 (iT aho.o NM.o (by decide))) (aF W5 (.cells #[.int .i64 k] 3)));have D5:=aa ((D3.o.grown g5 (fun e=>aq.not_row D3.o (by decide) NM.o e.symm)).on (aF W5 (.cells #[.int .i64 k] 3)));have R5:=aa ((IC.o.grown g5 (fun e=>aq.not_row IC.o (by decide) NM.o e.symm)).on (aF W5 (.cells #[.int .i64 k] 3)));have X5:=aa (ar W5 [.int .i64 k] 3);clear o5 g5))
     |(at_builtin;(with_reducible refine wl_app1 NKi (os:= .tmp 65) (ox:= .tmp 67) w.heap.size _ _ At5.o W5.heap.size k X5.o ?_ ?_ ?_ ?_ ?_);go_must((·exact lD.o.2);(·exact L5.o.size);(·rfl);(·rfl);intro v6 W6 o6 g6;obtain⟨A6,n6,c6,rfl⟩:=o6.bu;have O6:=aa o6;have L6:=aa (L5.o.grown g6 L5.o.size (fun j e=>(Xr At5.o j e).1));have S6:=aa (World.ownsRow.kept O5.o g6 (iT O5.o At5.o (by decide)));have D6:=aa (D5.o.grown g6 (fun e=>aq.not_row D5.o (by decide) At5.o e.symm));have R6:=aa (R5.o.grown g6 (fun e=>aq.not_row R5.o (by decide) At5.o e.symm));have y6:=D6.o.cell (j:=1) rfl;have f6:=D6.o.free 1;clear o6 g6)))
    have hw:=QX Hdb.o;have bT:=XP Hdb.o;refine⟨⟨na+1,by first|rfl|(rw[Int.natCast_add,←Int.add_assoc];rfl),⟨Hq.o,R6.o.az (p:=⟨db,1,none⟩) bT _,⟨A5,n5,c5,D6.o.set 1 _,?_⟩,?_,L6.o.setCell (p:=⟨db,1,none⟩) hw _⟩⟩,zK Hq.o⟩
    ·rw[Hpt.o];exact aB.aT (T:=133) (nb:=db) S6.o D6.o (by decide) 1 _
    ·rw[tH.o];exact aB.aT (T:=133) (nb:=db) O6.o D6.o (by decide) 1 _
   ·have hr0:=HD.o.no q (QC ei) hq;rw[hr0] at mn;have bm:(expand ae).take (61*(q+1))=(expand ae).take (61*q):=by have h1:=abT HD.o.np (QC ei);rw[←HD.o.oH.sum] at h1;rw[Qj h1,Qj (Qh h1 (Nat.mul_le_mul_left 61 (Q0 q)))]
    have BP:at_.take (q+1)=at_.take q:=by rw[Qj (QC ei),Qj (Qh (QC ei) (Q0 q))]
    have j2:Af (abr w ae at_ w.heap.size db (.slice Aa na ca) (q+1) wr):=⟨hq,HS.o.res,by rw[bm];exact HS.o.dir,by rw[BP];exact HS.o.at_,HS.o.low⟩;clear hr0 bm BP ei hq HS i0 hi8;go_wp2_with(go_at_call 70;go_must(refine mn.o.mono ?_);rintro e W2 ⟨rfl,rfl⟩);exact⟨⟨q+1,by first|rfl|(rw[Int.natCast_add,←Int.add_assoc];rfl),j2.o⟩,zK Hq.o⟩
  ·have hq5:=QE HS.o.le (QC hq);subst hq5;rw[show(3:Int)+((5:Nat):Int)=8 from rfl];obtain⟨Ad,nd,cd,iU,bN⟩:=HS.o.dir;have bm:(expand ae).take (61*5)=expand ae:=Qj (Qh HD.o.oH.len (by decide));have BP:=Qj HD.o.af6.2;have kJ:=HS.o.at_;rw[bm] at bN;rw[BP] at kJ;have im:nd=(expand ae).length:=by obtain⟨A',c',e,-⟩:=bN.ns.form;injection e
   have Ez:na=at_.length:=by obtain⟨A',c',e,-⟩:=kJ.ns.form;injection e
   have hN:=im.trans HD.o.oH.sum;have J4:nd≤256:=by rw[im];exact HD.o.oH.len
   have d8:=HD.o.oH.d8;obtain⟨N0,hE1,hu8,hu,hE0⟩:=abS (N:=nd) (dep:=dep) hN J4 d8;have HLn:Af (∀W,Calls prog 121 #[.int .u64 nd] W fun e w' =>e= .returned (.int .i64 (dep+1:Nat))∧W=w'):=fun W=>(Tryz.bits_Len nd W (Xh _) hE0).mono fun e w' h=>by rw[Xt,hN,vX dep d8] at h;exact⟨h.1,h.2.symm⟩
   obtain⟨E,hE⟩:=eX (dep+1);rw[←hE] at HLn hE1;have EJ:Af (∀W,Calls prog 36 #[.int .i64 nd] W fun e w' =>e= .returned (.int .i64 na)∧W=w'):=fun W=>by have h1:=dY W nd (Xh _) (by omega);rw[hN,←HD.o.np,←Ez,←hN] at h1;exact h1
   have Hnd:=iJ im Ez J4;have z1:=iU.cell (j:=1) rfl;have z0:=iU.cell (j:=0) rfl;have f0:=iU.free 0;have HDb:=aa iU;have HO:=aa bN;have Ye:=aa kJ;have WU:=aa HS.o.res;have HL:=aa HS.o.low;clear iU bN kJ bm BP im Ez hN J4 d8 hE0 hq HS hE;go_upto_region 19 with(go_at_call 121;go_must(refine(HLn.o _).mono ?_);rintro e W2 ⟨rfl,rfl⟩)
   have D7:aq (wr.setCell ⟨db,0,none⟩ (.int .u8 dep)) db 133 (uD dep (.slice Ad nd cd)):=HDb.o.set 0 _;have O7:aB (wr.setCell ⟨db,0,none⟩ (.int .u8 dep)) w.heap.size 61 .u16 (.slice Ad nd cd) (expand ae):=aB.aT (T:=133) (nb:=db) HO.o HDb.o (by decide) 0 _;have A7:aB (wr.setCell ⟨db,0,none⟩ (.int .u8 dep)) w.heap.size 3 .i64 (.slice Aa na ca) at_:=aB.aT (T:=133) (nb:=db) Ye.o HDb.o (by decide) 0 _;have R7:aq (wr.setCell ⟨db,0,none⟩ (.int .u8 dep)) w.heap.size 133 (uD 0 (.slice none 0 0)):=WU.o.az (p:=⟨db,0,none⟩) (XP Hdb.o) _;have L7:Below w.heap.size w (wr.setCell ⟨db,0,none⟩ (.int .u8 dep)):=HL.o.setCell (p:=⟨db,0,none⟩) (QX Hdb.o) _;obtain⟨W7,Eh⟩:=eX (wr.setCell ⟨db,0,none⟩ (.int .u8 dep));rw[←Eh] at D7 O7 A7 R7 L7⊢;have HRi:=aa (vD W7 dep ae HD.o.oH (.slice Ad nd cd) O7.ns);obtain⟨y0,y1⟩:=gh D7;have D7:=aa D7;have O7:=aa O7;have A7:=aa A7;have R7:=aa R7;have L7:=aa L7;clear Eh z0 z1 f0 HDb HO Ye WU HL HLn hE1 hu8 hu;go_upto_region 21 with(first
    |(go_at_call 122;go_must(refine HRi.o.mono ?_);rintro e W8 ⟨rfl,b8⟩;have B8:=aa b8;have y8:=(D7.o.on b8).cell (j:=1) rfl;clear b8)
    |(go_at_call 36;go_must(refine(EJ.o _).mono ?_);rintro e W9 ⟨rfl,rfl⟩))
   have D8:=aa (D7.o.on B8.o);have O8:=aa (O7.o.on B8.o);have A8:=aa (A7.o.on B8.o);have R8:=aa (R7.o.on B8.o);have L8:=aa (L7.o.trans (B8.o.mono L7.o.size));obtain⟨sg,Ay,aaV⟩:=HD.o.deep;obtain⟨j1,hj1⟩:=List.getElem?_of_mem Ay;obtain⟨x1,xx⟩:=eX (aC ae j1);have Hj1:Af (ae[j1]? =some sg∧sg.1=1∧x1=aC ae j1∧x1<nd):=⟨hj1,aaV,xx,by have h1:=bH ae j1 sg hj1;have h2:=fH ae (j1+1);rw[h1,aaV,←xx,←Hnd.o.1] at h2;exact h2⟩
   have ar0:(nd:Int)≤256:=by have:=Hnd.o.2.2;omega
   clear D7 O7 A7 R7 L7 y0 y1 HRi EJ Ay aaV hj1 xx;go_wp2_with fail;go_loopw [98,12] (fun iv mv wr=>∃k m:Nat,iv= .int .i64 k∧mv= .int .i64 m∧Af (k≤nd∧m≤dep∧(x1<k→m=dep)∧Below W8.heap.size W8 wr)) (fun iv _ _=>nd - (intOf iv).toNat)
   case atStart=>exact⟨0,0,rfl,rfl,Qp _,Qp _,fun h=>absurd h (Nat.not_lt_zero _),Xj _ _⟩
   case round=>
    obtain⟨k,m,rfl,rfl,HR⟩:=hrel;by_cases hk:k<nd
    ·obtain⟨j,sj,i,hj,hi,AA⟩:=lo ae k (by rw[←Hnd.o.1];exact hk);obtain⟨e,he1,ZY,-⟩:=HD.o.oH.two j sj hj;have hO:=(O8.o.on HR.o.2.2.2).ns;have uo:=nT wr dep ae HD.o.oH (.slice Ad nd cd) hO j i e sj hj hi ZY;rw[←AA] at uo;obtain⟨D,hD⟩:=eX (dep - e);obtain⟨X,hX⟩:=eX (aC ae j);rw[←hD,←hX] at uo;have uo:=aa uo;have hdm:x1<k+1→max m D=dep:=fun h1=>by
      rcases Nat.lt_or_ge x1 k with h2|h2
      ·rw[HR.o.2.2.1 h2,hD];exact Nat.max_eq_left (Nat.sub_le _ _)
      ·have h3:aC ae j+i=aC ae j1+0:=by rw[←AA,XC,←Hj1.o.2.2.1];exact QE h2 (Nat.le_of_lt_succ h1)
       have h4:=PO hj Hj1.o.1 hi (by rw[Hj1.o.2.1];decide) h3;subst h4;have h5:=Qr (hj.symm.trans Hj1.o.1);have h6:e=0:=by rw[h5,Hj1.o.2.1] at ZY;exact(Nat.pow_right_inj (XL 1)).1 (by rw[←ZY])
       rw[hD,h6];exact Nat.max_eq_right HR.o.2.1
     have Kh:Af (max m D≤dep∧(x1<k+1→max m D=dep)):=⟨Nat.max_le.2 ⟨HR.o.2.1,by rw[hD];exact Nat.sub_le _ _⟩,hdm⟩;have d9:=D8.o.on HR.o.2.2.2;obtain⟨y0,y1⟩:=gh d9;have NN:=aa HR.o.2.2.2;obtain⟨k1,k1n,hwk⟩:=ag4 (x:=0) (s:=nd) (n:=nd) (by rw[QR];exact hk) (Xg (QR nd)) Hnd.o.2.2;have k0:=Xh k;have Hk:=aa hk;have Hwk:=aa hwk;clear hj hi AA he1 ZY hO hD hX hdm d9 k1n HR hk;go_wp2_with(go_at_call 123;go_must(refine uo.o.mono ?_);rintro e' W9 ⟨rfl,b9⟩;have B9:=aa b9;clear b9);refine⟨⟨k+1,max m D,rfl,by rw[Rt],Hk.o,Kh.o.1,Kh.o.2,NN.o.trans (B9.o.mono NN.o.size)⟩,?_⟩;exact al Hk.o
    ·have cH:=QE HR.o.1 (QC hk);subst cH;have hm:=HR.o.2.2.1 Hj1.o.2.2.2;subst hm;have d9:=D8.o.on HR.o.2.2.2;obtain⟨y0,y1⟩:=gh d9;have NN:=aa HR.o.2.2.2;have r9:=R8.o.on HR.o.2.2.2;obtain⟨q0,q1⟩:=gh r9;obtain⟨g0,g1⟩:=fR2 r9;have R9:=aa r9;have S9:=aa (O8.o.on HR.o.2.2.2);have A9:=aa (A8.o.on HR.o.2.2.2);have L9:=aa (L8.o.trans (HR.o.2.2.2.mono L8.o.size));have hwm:=U5 m HD.o.oH.d8;clear HR hk d9 r9;go_wp2_with fail;refine bodyPost_ret (jR rfl rfl (ve (OB R9.o _ _))) rfl ?_;refine⟨_,_,rfl,?_,?_,?_⟩
     ·exact aB.aT (T:=133) (aB.aT (T:=133) S9.o R9.o (by decide) 0 _) (R9.o.set 0 _) (by decide) 1 _
     ·exact aB.aT (T:=133) (aB.aT (T:=133) A9.o R9.o (by decide) 0 _) (R9.o.set 0 _) (by decide) 1 _
     ·exact(L9.o.setCell (p:=⟨w.heap.size,0,none⟩) (Qg _) _).setCell (p:=⟨w.heap.size,1,none⟩) (Qg _) _
end
section
open Go.RowKit
open Go.Maps (Keyed)
attribute [local go_sem] Oper.semAt_some
variable {q r : IntKind}
theorem anD {α:Type} (cs:Array α) (h:cs.size=2):∃x y,cs= #[x,y]:=by
 obtain⟨L⟩:=cs
 match L,h with
 |[x,y],_=>exact⟨x,y,rfl⟩
section
variable {P : Program} {k t u : TypeId}
structure lH (P:Program) (k:TypeId) (q r:IntKind):Prop where
 ex:∃(t u:TypeId) (f g:Field),P.underlying k=some (.struct #[f,g])∧f.type=t∧g.type=u∧f.offset=0∧g.offset=1∧(f.name !="_")=true∧(g.name !="_")=true∧P.underlying t=some (.int q)∧P.underlying u=some (.int r)∧P.cellsOf t=1∧P.cellsOf u=1
 cells:P.cellsOf k=2
 key:P.keyType k=true
 row:k<P.types.size
theorem lH.lits (K:lH P k q r) (n:Nat) (x y:Va):P.keyLits (n+2) k [x,y]=match x,y with
  | .int q' a,.int r' b=>if(q' =q∧(Lit.int q a).wf=true)∧(r' =r∧(Lit.int r b).wf=true) then some [.int q a,.int r b] else none
  |_,_=>none:=by
 obtain⟨t,u,f,g,hk,rfl,rfl,hf,hg,Nj,hgn,ht,hu,ct,cu⟩:=K.ex;have e1:P.keyLits (n+1) f.type [x]=match x with| .int q' a=>if q' =q∧(Lit.int q a).wf=true then some [.int q a] else none|_=>none:=by
  unfold Program.keyLits;rw[ht]
  cases x<;>rfl
 have e2:P.keyLits (n+1) g.type [y]=match y with| .int q' a=>if q' =r∧(Lit.int r a).wf=true then some [.int r a] else none|_=>none:=by
  unfold Program.keyLits;rw[hu]
  cases y<;>rfl
 unfold Program.keyLits;rw[hk];simp only[K.cells,QF,Xq];have bm:(#[f,g].all fun z=>z.name !="_")=true:=by simp[Nj,hgn]
 rw[Xo ⟨trivial,bm⟩];simp only[List.mapM_cons,List.mapM_nil,hf,hg,ct,cu,Zl,Zw,Zq,Zk,e1,e2]
 cases x<;>cases y<;>simp
 rename_i q' a r' b
 by_cases h1:q' =q∧(Lit.int q a).wf=true<;>by_cases h2:r' =r∧(Lit.int r b).wf=true<;>simp[h1,h2]
theorem lH.size (K:lH P k q r):∃n,P.types.size=n+1:=⟨P.types.size - 1,by have h:=K.row;exact(Nat.succ_pred_eq_of_pos (QO (Qp _) h)).symm⟩
theorem lH.keyOf (K:lH P k q r) {a b:Int} (h:(Lit.int q a).wf=true∧(Lit.int r b).wf=true):Go.keyOf P k (.agg #[.int q a,.int r b])=some (.string (keyBytes [.int q a,.int r b])):=by
 obtain⟨n,hn⟩:=K.size;have h1:=K.lits n (.int q a) (.int r b);simp only[h.1,h.2,and_self,if_true] at h1;obtain⟨t,u,f,g,hk,-⟩:=K.ex;have hf:(Value.agg #[.int q a,.int r b]).formed P k=true:=by simp[Value.formed,hk,K.cells]
 unfold Go.keyOf;rw[hk];simp only[K.key,hf,Bool.and_self,if_true,hn];rw[show(Value.agg #[.int q a,.int r b]).cells.toList=[.int q a,.int r b] from rfl,h1];rfl
theorem lH.inv (K:lH P k q r) {v:Va} {l:Lit} (h:Go.keyOf P k v=some l):∃a b,v= .agg #[.int q a,.int r b]∧(Lit.int q a).wf=true∧(Lit.int r b).wf=true:=by
 obtain⟨n,hn⟩:=K.size;obtain⟨t,u,f,g,hk,-⟩:=K.ex;unfold Go.keyOf at h;rw[hk] at h;simp only at h;split at h
 ·rename_i hf0
  have hf:=(Bool.and_eq_true_iff.1 hf0).2;clear hf0;cases v<;>simp[Value.formed,hk,K.cells] at hf
  rename_i cs
  obtain⟨x,y,rfl⟩:∃x y,cs= #[x,y]:=anD cs hf;rw[show(Value.agg #[x,y]).cells.toList=[x,y] from rfl,hn,K.lits n x y] at h;cases x<;>cases y<;>first|(exfalso;simp at h;done)|skip
  rename_i q' a r' b
  by_cases hc:(q' =q∧(Lit.int q a).wf=true)∧(r' =r∧(Lit.int r b).wf=true)
  ·obtain⟨⟨rfl,h1⟩,rfl,h2⟩:=hc;exact⟨_,_,rfl,h1,h2⟩
  ·simp only[Xd hc] at h;cases h
 ·cases h
end
theorem aaO:lH prog 68 .u64 .u32 where
 ex:=⟨_,_,_,_,underlying68,rfl,rfl,rfl,rfl,by decide,by decide,underlying22,underlying23,by kernel_rfl,by kernel_rfl⟩
 cells:=by kernel_rfl
 key:=by kernel_rfl
 row:=XQ (by kernel_rfl)
theorem RD:laidOutB prog=true:=by kernel_rfl
theorem af7:WideMaps.KeyLaw prog 68:=deep_law_laid RD (m:=2) (Nat.le_of_ble_eq_true rfl) aaO.row (by kernel_rfl) (by rw[underlying68])
def kvE (e:aD):Va:= .agg #[.int .u64 e.print,.int .u32 e.block]
def WN:MK aD Int where
 mt:=79
 kt:=68
 vt:=3
 xz:=underlying79
 keyed:=Keyed.of_law af7
 kv:=kvE
 kl:=fun e=> .string (keyBytes [.int .u64 e.print,.int .u32 e.block])
 qY:=fun e=>(Lit.int .u64 e.print).wf=true∧(Lit.int .u32 e.block).wf=true
 ir:=fun e h=>aaO.keyOf h
 Bn:=fun x y h=>by
  cases x;cases y
  simp[kvE] at h;simp[h]
 sB:=fun v l h=>by
  obtain⟨a,b,rfl,h1,h2⟩:=aaO.inv h;exact⟨⟨a,b⟩,⟨h1,h2⟩,rfl⟩
 vv:= .int .i64
 Ix:=fun y=> .lit (.int .i64 y)
 R:=RI .i64
 MZ:=IU .i64
 Bm:=zy .i64
 zo:=zz .i64
 zero:=0
 hz:=fun w=>by kernel_rfl
end
section
open Go.RowKit
attribute [local go_sem] Oper.semAt_some
theorem gQ {p:Int} (hp:bI p):0≤p/2^56∧p/2^56<256∧wrap64 (p/2^56)=p/2^56:=by
 obtain⟨l0,l1⟩:=I8 hp (Qg 8);have e:(64 - 8:Nat)=56:=rfl;rw[e] at l0 l1;generalize p/2^56=q at*;refine⟨l0,l1,?_⟩;unfold wrap64;omega
theorem lr (w:Wo) (p:Int) (hp:bI p):Calls prog 141 #[.int .u64 p] w fun e w' =>e= .returned (.int .i64 (p/2^56))∧w=w' :=by
 have Hn:=aa (gQ hp);clear hp;go_enter func141,ntmps141;go_wp2_with fail;go_ret;have h:=Hn.o.2.2;rw[show(2:Int)^56=72057594037927936 from rfl] at h⊢;rw[h];exact⟨rfl,rfl⟩
def bY (ax dep n:Nat):Bool:=(n ^^^ ax)/2^(8 - dep)==0
theorem VA {ax dep n:Nat} (hf:ax<256) (hn:n<256):(bits .xor .i64 n ax/2^(8 - dep)==0)=bY ax dep n:=by
 have h1:bits .xor .i64 (n:Int) (ax:Int)=((n ^^^ ax:Nat):Int):=by
  have hx:n ^^^ ax<2^8:=Nat.xor_lt_two_pow hn hf;have h1:(BitVec.ofInt 64 (n:Int)).toNat=n:=by rw[BitVec.ofInt_natCast,BitVec.toNat_ofNat];exact Nat.mod_eq_of_lt (by omega)
  have h2:(BitVec.ofInt 64 (ax:Int)).toNat=ax:=by rw[BitVec.ofInt_natCast,BitVec.toNat_ofNat];exact Nat.mod_eq_of_lt (by omega)
  show IntKind.i64.wrap ((BitVec.ofInt 64 (n:Int) ^^^ BitVec.ofInt 64 (ax:Int)).toNat:Int)=_;rw[BitVec.toNat_xor,h1,h2];generalize n ^^^ ax=z at*;simp[IntKind.wrap,IntKind.bits,IntKind.signed];omega
 unfold bY;rw[h1,XD,beq_iff_eq,beq_iff_eq];generalize n ^^^ ax=z;rw[show((2:Int)^(8 - dep))=((2^(8 - dep):Nat):Int) from(Int.natCast_pow 2 (8 - dep)).symm,←Int.natCast_ediv];exact Int.natCast_eq_zero
theorem tV (w:Wo) (ax dep n:Nat) (hf:ax<256) (hd:dep≤8) (hn:n<256) (bv sv:Va):Calls prog 140 #[.agg #[.int .i64 ax,.int .i64 dep,bv,sv],.int .i64 n] w fun e w' =>e= .returned (.bool (bY ax dep n))∧Below w.heap.size w w' :=by
 obtain⟨W0,aY,X0,-⟩:=nW w [.int .i64 ax,.int .i64 dep,bv,sv] 50;have B0:Af (Below w.heap.size w W0):=by rw[aY];exact aF _ _
 have fD:=aa aY.symm;obtain⟨x0,x1⟩:=gh X0;have Hx:Af ((bits .xor .i64 n ax/2^(8 - dep)==0)=bY ax dep n):=VA hf hn;clear aY X0;go_enter func140,ntmps140;go_upto_region 1 with fail
 rw[fD.o];go_wp2_with fail;go_ret;rw[Hx.o];exact⟨rfl,B0.o⟩
end
section
open Go.RowKit
attribute [local go_sem] Oper.semAt_some
variable {B k : Nat} {w : Wo} {v : Va} {ps : List (ay × Va)}
structure ak where
 ax:Nat
 depth:Nat
 blocks:List Int
 ah:List ay
deriving DecidableEq
def sx (ax dep:Nat) (i:Nat) (st:List aD×Int) (e:aD):Option (List aD×Int):=
 if e∈st.1∨bY ax dep (e.print/2^56).toNat=false∨(0<i∧0≤st.2∧st.2≠e.print/2^56) then none
 else some (e::st.1,if 0<i then e.print/2^56 else st.2)
def iZ (ax dep:Nat) (i:Nat):List aD→List aD×Int→Option (List aD×Int)
 |[],st=>some st
 |e::r,st=>(sx ax dep i st e).bind (iZ ax dep i r)
def iA (ax dep:Nat):Nat→List ay→List aD×Int→Option (List aD×Int)
 |_,[],st=>some st
 |i,s::r,st=>if bC s=false∨(0<i∧s.es=[]) then none else(iZ ax dep i s.es st).bind (iA ax dep (i+1) r)
def dz (c:ak):Bool:=
 decide (c.ah≠[])&&decide (c.blocks.length=c.ah.length)&&decide (c.depth≤8)&&decide (c.ax<256)&&decide (c.ax%2^(8 - c.depth)=0)&&(iA c.ax c.depth 0 c.ah ([],-1)).isSome
theorem pO (ax dep i:Nat) (e:aD) (r:List aD) (st:List aD×Int):iZ ax dep i (e::r) st=(sx ax dep i st e).bind (iZ ax dep i r):=rfl
theorem lV (ax dep i:Nat) (s:ay) (r:List ay) (st:List aD×Int):iA ax dep i (s::r) st=if bC s=false∨(0<i∧s.es=[]) then none else(iZ ax dep i s.es st).bind (iA ax dep (i+1) r):=rfl
theorem tX {α:Type} {l:List α} {x:α} (h:l[k]? =some x):l.drop k=x::l.drop (k+1):=by
 obtain⟨hk,rfl⟩:=Ql.1 h;exact Zd hk
def fV (p:ay×Va):List Va:=[.int .u8 p.1.depth,.int .u32 p.1.next,p.2]
def pC (s:ay):Prop:=aI s.depth∧bX s.next∧s.es.length≤9
theorem pH:∀(ps:List (ay×Va)) (k:Nat) (p:ay×Va),ps[k]? =some p→∀j,j<3→(ps.flatMap fV)[k*3+j]? =(fV p)[j]? :=by
 intro ps;induction ps with
 |nil=>intro k p h;simp at h
 |cons a r ih=>
  intro k p h j hj;cases k with
  |zero=>
   simp only[List.getElem?_cons_zero,Option.some.injEq] at h;subst h;rw[Xz,QR,QH,QN (by show j<3;exact hj)]
  |succ k=>
   have h1:=ih k p (by simpa using h) j hj;rw[QH,QM (by show 3≤_;omega)];rw[←h1];congr 1
   show(k+1)*3+j - 3=k*3+j;omega
structure mP (w:Wo) (B:Nat) (v:Va) (ps:List (ay×Va)):Prop where
 sl:Sl w B 3 v ps.length (ps.flatMap fV)
 es:∀p∈ps,Es w B p.2 p.1.es∧pC p.1
theorem mP.below {w' :Wo} (h:mP w B v ps) (hb:Below B w w'):mP w' B v ps:=⟨h.sl.below hb,fun p hp=>⟨(h.es p hp).1.below hb,(h.es p hp).2⟩⟩
theorem mP.more {B' :Nat} (h:mP w B v ps) (hB:B≤B'):mP w B' v ps:=⟨h.sl.more hB,fun p hp=>⟨(h.es p hp).1.more hB,(h.es p hp).2⟩⟩
theorem mP.cells (h:mP w B v ps) {p:ay×Va} (hk:ps[k]? =some p):
  ∃b o c,v= .slice (some ⟨b,o,none⟩) ps.length c∧b<B∧w.cell? ⟨b,o+k*3,none⟩=some (.int .u8 p.1.depth)∧w.cell? ⟨b,o+k*3+1,none⟩=some (.int .u32 p.1.next)∧w.cell? ⟨b,o+k*3+2,none⟩=some p.2:=by
 obtain⟨bQ,-⟩:=Ql.1 hk;obtain⟨b,o,c,rfl,-,-,hr⟩:=h.sl.row (QO (Qp _) bQ);refine⟨b,o,c,rfl,hr.1,?_,?_,?_⟩
 ·exact hr.2 _ _ (by have:=pH ps k p hk 0 (by decide);exact this)
 ·rw[XB];exact hr.2 _ _ (by rw[pH ps k p hk 1 (by decide)];rfl)
 ·rw[XB];exact hr.2 _ _ (by rw[pH ps k p hk 2 (by decide)];rfl)
structure Uq (w:Wo) (B:Nat) (v:Va) (c:ak):Prop where
 ex:∃bv sv ps,v= .agg #[.int .i64 c.ax,.int .i64 c.depth,bv,sv]∧Ns w B .i64 bv c.blocks∧mP w B sv ps∧ps.map Prod.fst=c.ah
theorem CJ {ax dep:Nat} (hd:dep≤8):wrap64 ((2:Int)^(8 - dep))=((2^(8 - dep):Nat):Int)∧(ax:Int).tmod ((2^(8 - dep):Nat):Int)=((ax%2^(8 - dep):Nat):Int)∧wrap64 (8 - (dep:Int))=((8 - dep:Nat):Int):=
 ⟨Cg (8 - dep) (Nat.sub_le _ _),(Int.ofNat_tmod _ _).symm,by unfold wrap64;omega⟩
end
section
open Go.RowKit
open Go.Maps (Keyed)
open Go.WideElems Go.ChangeShapes Go.WideShapes Go.MapKept Go.ChangeMaps
variable {x : Int}
section
variable {K V : Type} [DecidableEq K] {M : MK K V} {w : Wo} {m s : Nat} {f : K → Option V}
theorem MG.entry (KL:WideMaps.KeyLaw prog M.kt) (h:MG M w m f s) (hs:s≤100000) {x:K} (hx:M.qY x):
  ∃(st:Nat) (w1:Wo),(Instr.mapEntry M.mt (.map (some m)) (M.kv x)).run prog w= .ok (.tuple #[M.vv ((f x).getD M.zero),goInt st]) w1∧w.grownBy w1 (some m)∧
   (∃f1 s1,MG M w1 m f1 s1∧(f1 x).getD M.zero=(f x).getD M.zero)∧
   ∀(w2:Wo) (y:V),w2.heap[m]? =w1.heap[m]?→∃w3,(Instr.entryStore M.mt (.map (some m)) (goInt st) (M.vv y)).run prog w2= .ok () w3∧MG M w3 m (eM f x y) (if(f x).isSome then s else s+1)∧w2.grownBy w3 (some m):=by
 have kJ:=h.at hx;have h0:=h;obtain⟨D,⟨es,clock,hb,F,hn,hD⟩,h2,h3⟩:=h;obtain⟨v0,st,es1,Fm,e1,e2,e3⟩:=entry_then_store KL M.xz M.hz hb F (M.ir x hx);obtain⟨wz,mM,xw,hz3⟩:=h0.store hs hx M.zero;have sF:v0=M.vv ((f x).getD M.zero)∧∃f1 s1,MG M (setBlock w m (.map es1 Fm)) m f1 s1∧(f1 x).getD M.zero=(f x).getD M.zero:=by
  rcases KL.find w (M.ir x hx) es.toList F.keys with⟨g1,g2⟩|⟨j,e0,g1,g2,g3⟩
  ·have hl:(Instr.lookup M.mt (.map (some m)) (M.kv x) false).run prog w= .ok (M.vv M.zero) w:=by
    simp[Instr.lookup,run_underlying M.xz,MapKept.run_getObj_map hb,KL.check w es.isEmpty (M.ir x hx),g1,M.hz]
   have hm:(Instr.mapEntry M.mt (.map (some m)) (M.kv x)).run prog w= .ok (.tuple #[M.vv M.zero,goInt clock]) (setBlock w m (.map (es.push ⟨M.kv x,M.vv M.zero,clock⟩) (clock+1))):=by
    simp[Instr.mapEntry,run_underlying M.xz,MapKept.run_getObj_map hb,KL.check w false (M.ir x hx),g1,M.hz,MapKept.run_setObj_map _ hb,Result.andThen,setBlock]
   have hu:(Instr.mapUpdate M.mt (.map (some m)) (M.kv x) (M.vv M.zero)).run prog w= .ok () (setBlock w m (.map (es.push ⟨M.kv x,M.vv M.zero,clock⟩) (clock+1))):=by
    simp[Instr.mapUpdate,run_underlying M.xz,MapKept.run_getObj_map hb,KL.check w false (M.ir x hx),g1,MapKept.run_setObj_map _ hb,Result.andThen,setBlock]
   rw[kJ] at hl;rw[hm] at e1;rw[hu] at mM;injection hl with ME _
   injection e1 with e1a e1b
   injection mM with _ am0
   injection e1a with e1a
   have hv:M.vv M.zero=v0:=by
    have:=XF (fun a=>a[0]?) e1a;simpa using this
   refine⟨by rw[←hv,ME],eM f x M.zero,_,by rw[←e1b,am0];exact xw,?_⟩
   have:(f x).getD M.zero=M.zero:=by
    have h5:=XF M.R ME;rw[M.MZ,M.MZ] at h5;exact M.zo _ _ (XF Prod.fst (Qr h5))
   rw[this];simp[eM]
  ·have hj:es[j]? =some e0:=by simpa using g2
   have BG:es.modify j (fun e=>{e with key:=M.kv x})=es:=by
    apply Array.ext';rw[Array.toList_modify,modify_eq_set _ _ _ _ g2];have:({e0 with key:=M.kv x}:MapEntry)=e0:=by rw[←g3]
    rw[this];exact set_self _ _ _ g2
   have hl:(Instr.lookup M.mt (.map (some m)) (M.kv x) false).run prog w= .ok e0.val w:=by
    simp[Instr.lookup,run_underlying M.xz,MapKept.run_getObj_map hb,KL.check w es.isEmpty (M.ir x hx),g1]
   have hm:(Instr.mapEntry M.mt (.map (some m)) (M.kv x)).run prog w= .ok (.tuple #[e0.val,goInt e0.born]) (setBlock w m (.map es clock)):=by
    simp[Instr.mapEntry,run_underlying M.xz,MapKept.run_getObj_map hb,KL.check w false (M.ir x hx),g1,hj,g3,KL.stays w (M.ir x hx),BG,MapKept.run_setObj_map _ hb,Result.andThen,setBlock]
   rw[kJ] at hl;rw[hm] at e1;injection hl with ME _
   injection e1 with e1a e1b
   injection e1a with e1a
   have hv:e0.val=v0:=by
    have:=XF (fun a=>a[0]?) e1a;simpa using this
   refine⟨by rw[←hv,ME],f,s,h0.aQ ?_,rfl⟩;rw[←e1b,hb,heap_setBlock_same hb]
 obtain⟨rfl,Nk⟩:=sF;have uc:∀(W:Wo) (es0 oT :Array MapEntry) (c0 c' :Nat),W.heap[m]? =some (.map es0 c0)→W.grownBy (setBlock W m (.map oT c')) (some m):=fun W es0 oT c0 c' hW=>⟨rfl,rfl,rfl,by simp[setBlock],fun i _ hi=>heap_setBlock_other hW _ (fun e=>hi (by rw[e]))⟩
 refine⟨st,_,e1,uc w es es1 clock Fm hb,Nk,fun w2 y fp=> ?_⟩;rw[heap_setBlock_same hb] at fp;obtain⟨oT,acm,q1,q2⟩:=e3 w2 (M.vv y) fp;obtain⟨wy,Tr,hy2,hy3⟩:=h0.store hs hx y;rw[q2] at Tr;injection Tr with _ Tr
 refine⟨_,q1,hy2.aQ ?_,uc w2 es1 oT Fm acm fp⟩;rw[heap_setBlock_same fp,←Tr,heap_setBlock_same hb]
end
section
variable {P : Program} {ops : Array Oper} {w w' : Wo} {Q : Exit → Act → Wo → Prop} {a : Act} {dst : Option Tmp} {ty mt : TypeId} {pos : String} {after : Array Edge} {E : Prop} {K : Act → Wo → Prop}
end
theorem ahu (h:bI x):(Lit.int .u64 x).wf=true:=by
 unfold bI at h;simp[Lit.wf,IntKind.min,IntKind.max,IntKind.signed,IntKind.bits];omega
theorem ahv (h:bX x):(Lit.int .u32 x).wf=true:=by
 unfold bX at h;simp[Lit.wf,IntKind.min,IntKind.max,IntKind.signed,IntKind.bits];omega
theorem RA {w:Wo} {b o:Nat} {x y:Va} (h0:w.cell? ⟨b,o,none⟩=some x) (h1:w.cell? ⟨b,o+1,none⟩=some y):(Instr.loadAt 68 (.pointer (some ⟨b,o,none⟩))).run prog w= .ok (.agg #[x,y]) w:=by
 have hl:=run_loadCells_list (P:=prog) w ⟨b,o,none⟩ [x,y] (fun j v hj=>by
  rw[dP]
  match j,hj with
  |0,hj=>simp at hj;rw[←hj];exact h0
  |1,hj=>simp at hj;rw[←hj];exact h1
  |j+2,hj=>simp at hj)
 simp only[QF,Xq,QR,Nat.reduceAdd] at hl;have h2:(isAgg 68).run prog w= .ok true w:=by kernel_rfl
 have h3:(sizeOf 68).run prog w= .ok 2 w:=by kernel_rfl
 have h4:(Instr.sureAddr (.pointer (some ⟨b,o,none⟩))).run prog w= .ok ⟨b,o,none⟩ w:=rfl;simp[Instr.loadAt,loadVar,hl,h2,h3,h4,Result.andThen]
end
end Go.Proofs.YthgdhacopamklaaGreat

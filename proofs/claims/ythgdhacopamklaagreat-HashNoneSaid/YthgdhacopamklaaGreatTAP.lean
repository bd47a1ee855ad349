/- What HashNone asks, part 16 of 41: parts of the walks and laws, each true as it stands. -/
import Derived.ChangeKeysEq
import Derived.Test.YthgdhacopamklaaGreatTAO
set_option maxHeartbeats 16000000
set_option maxRecDepth 100000
set_option linter.unusedVariables false
set_option linter.unusedSimpArgs false
namespace Go.Proofs.YthgdhacopamklaaGreat
open Go.Proofs.Tryz
section
open Go.RowKit
theorem St (w:Wo) (d pl:Nat) (bl:List (List Int)) (h:cF w d pl bl) (v:Va) (l:List (Va×ri)) (hv:Sl w w.heap.size 1 v l.length (l.map Prod.fst)) (Wg:Ap (DS d pl) v) (hl:∀p∈l,lI w d pl p.1 p.2∧abp bl.length p.2) (hn:l.length≤9000) (YE:(l.map Prod.snd).getLast? =some .fl):
  Calls prog 48 #[v] w fun e w' =>e= .returned (.int .i64 0)∧cF w' d pl (iW (bl,[]) (l.map Prod.snd)).1∧aG (DS d pl) w w' :=by
 obtain⟨A,c,rfl,jb,pk⟩:=hv.form;obtain⟨n,jX⟩:=eX l.length;have HV:=aa hv;have HVa:=aa Wg;have HL:=aa hl;have ahU:=aa YE;have H:=aa h;have Hn:=dK jX (by omega:n≤9000);have j5:(n:Int)≤9000:=by omega
 rw[←jX];have ZF:=fun (w:Wo) (a:Addr) (f:Fn) (xs ys:Array Va)=>run_store_func (P:=prog) (w:=w) (a:=a) (m:= .plain) f xs ys
 simp only[stored] at ZF;clear hv Wg hl h hn jX jb pk YE;go_enter func48,ntmps48;go_wp2_with fail;go_loopw [8] (fun i wr=>∃k:Nat,i= .int .i64 k∧Af (k≤n∧((∃wv,mz wr d pl (iW (bl,[]) ((l.take k).map Prod.snd)).1 w.heap.size wv (iW (bl,[]) ((l.take k).map Prod.snd)).2)∧(((l.take k).map Prod.snd).getLast? =some .fl→cF wr d pl (iW (bl,[]) ((l.take k).map Prod.snd)).1))∧aG (DS d pl) w wr)) (fun i _=>n - (intOf i).toNat)
 case atStart=>exact⟨0,rfl,Qp _,⟨H.o.Ym _,fun e=>by simp at e⟩,aG.refl _ _⟩
 case round=>
  obtain⟨k,rfl,HR⟩:=hrel;by_cases aJ:k<n
  ·have hi:(k:Int)<n:=by omega
   have ml:(0:Int)≤k:=by omega
   have bQ:k<l.length:=by have:=Hn.o;omega
   have fp:wrap64 ((k:Int)+1)=(k:Int)+1:=by unfold wrap64;omega
   have bj:=aa aJ;have eu:=aa fp;obtain⟨b,o,c',hv,-,-,dL⟩:=HV.o.row (by omega);obtain⟨p,hp⟩:=eX (l[k]);have Wm:p∈l:=by rw[hp];exact QI bQ
   have gZ:=HVa.o b o _ c' (by omega) hv;have aH:=(HR.o.2.2.cell (p:=⟨b,o+k,none⟩) dL.1 gZ).trans (dL.2 k _ (by rw[Qt,Qf bQ,←hp];rfl));cases hv
   have cO:=(HL.o p Wm).1.aL HR.o.2.2;have ec:=(HL.o p Wm).2;obtain⟨wv,hD⟩:=HR.o.2.1.1;have cz:=HR.o.2.2.size;have hwl:=Dl (bl,[]) ((l.take k).map Prod.snd);rw[Qq,Qu,Xq] at hwl;have ZD:(l.take (k+1)).map Prod.snd=(l.take k).map Prod.snd++[p.2]:=by rw[XJ bQ,QL,←hp];rfl
   have tH:=aa ZD;obtain⟨pv,ps⟩:=p;have HC:=aa HR.o.2.2;have H9:=aa cz;have HDw:=aa hD;cases ps with
   |fl=>
    have zh:=cO;subst zh;have AD:=aF wr (.cells #[.func (.func 46) #[.pointer (some ⟨d,0,none⟩)] #[]] 120);have HF:=aa (LM _ d pl _ _ _ _ (hD.on AD) (by have:=Hn.o;omega));have HbA:=aa AD;clear hp Wm gZ cO ec hwl ZD hD cz aJ bQ dL HR AD;go_wp2_with(go_at_call 46;go_must(refine HF.o.mono ?_);rintro e W4 ⟨rfl,d4,c4⟩;have D4:=aa d4;have C4:=aa c4;clear d4 c4);go_roundw
    case rel=>refine⟨k+1,by first|rfl|(rw[eu.o];rfl),bj.o,?_,(HC.o.trans (aG.aZ HbA.o)).trans (C4.o.mono fun x _ h=>h)⟩;rw[tH.o,xX];exact⟨D4.o.Ym _,fun _=>D4.o⟩
    case measure=>first|exact al bj.o|(rw[eu.o];exact al bj.o)
   |wr i data=>
    have Bo:=cO;obtain⟨b1,b2,b3,e,-⟩:=Cl wr d pl _ _ _ _ hD cz (by have:=Hn.o;omega) pv i data Bo (by rw[xW];exact ec);subst e;have AD:=aF wr (.cells #[.func (.func 108) #[] #[.pointer (some ⟨b1,0,none⟩),.pointer (some ⟨b2,0,none⟩),.pointer (some ⟨b3,0,none⟩)]] 120);obtain⟨b1',b2',b3',e,hF⟩:=Cl _ d pl _ _ _ _ (hD.on AD) (Qh cz AD.size) (by have:=Hn.o;omega) _ i data (Bo.on AD) (by rw[xW];exact ec);cases e
    have HF:=aa hF;have HbA:=aa AD;have Hwv:Af (∀x,wv.ownBlock=some x→w.heap.size≤x):=fun x hx=>(Xr hD.row x hx).1
    clear hp Wm gZ cO Bo ec hwl ZD hD cz aJ bQ dL HR AD hF;go_wp2_with(go_at_call 108;go_must(refine HF.o.mono ?_);rintro e W4 ⟨rfl,wv4,d4,c4⟩;have D4:=aa d4;have C4:=aa c4;clear d4 c4);go_roundw
    case rel=>
     refine⟨k+1,by first|rfl|(rw[eu.o];rfl),bj.o,?_,?_⟩
     ·rw[tH.o,xX];exact⟨⟨wv4,D4.o⟩,fun e=>by simp at e⟩
     ·refine(HC.o.trans (aG.aZ HbA.o)).iR C4.o (fun x _ h=>h) (fun x hx h=> ?_);rcases h with h|h
      ·exact .inl h
      ·exact absurd hx (XV.2 (Hwv.o x h))
    case measure=>first|exact al bj.o|(rw[eu.o];exact al bj.o)
  ·obtain rfl:k=n:=by have:=HR.o.1;omega
   have e1:l.take k=l:=Qj (by have:=Hn.o;omega);have fF:=aa HR.o.2;rw[e1] at fF;clear e1 HR;go_wp2_with fail;go_ret;exact⟨rfl,fF.o.1.2 ahU.o,fF.o.2⟩
end
section
namespace aE
variable {t : aE}
end aE
structure anH (x:fk):Prop where
 ok:x.t.Ok
 l2:2≤x.t.len
 n2:2≤x.next
 nl:x.next≤x.t.len
 lp:x.pp.length=x.ag.length
 ld:x.pd.length=x.au.length
 rg:∀y∈x.ag++x.au,0≤y∧y<x.t.len
 rm:(Bl x:Int)≤x.t.room 2
theorem zG (n:Nat):(aE.new n).len=n:=by simp[aE.new,aE.len]
def kN (n:Nat):Nat:=(aR n).toNat
def mN (n:Nat):Nat:=(aR (aR n)).toNat
theorem uK {n:Nat} (h:1≤n):((kN n:Nat):Int)=aR n∧((mN n:Nat):Int)=aR (kN n:Nat):=by
 unfold kN mN aR;rw[Xd (by omega)];have:(1:Int)≤((n:Int) - 1)/61+1:=by omega
 have e:((((n:Int) - 1)/61+1).toNat:Int)=((n:Int) - 1)/61+1:=by omega
 rw[e];refine⟨rfl,?_⟩;rw[Xd (by omega)];omega
end
section
open Go.RowKit
attribute [local go_sem] Oper.semAt_some
variable {s : aN} {base d n sb tb : Nat} {W W5 w : Wo} {sd sp v v0 v1 v2 wd wp : Va} {xs : List Int} {S : Nat → Prop} {s0 s1 s2 : ri}
theorem GF (s:Nat) (l:List Int):(l.flatMap (mH s)).length=s*l.length:=by
 induction l with
 |nil=>simp
 |cons a r ih=>rw[QH,Qo,ih,de,QF,Nat.mul_succ,Nat.add_comm]
theorem Mk (h:bM s):(qx s).length=123:=by
 unfold qx;simp only[Qo,de,GF,h.r8,h.m8,QK]
theorem GK (h:bM s):(J7 s).length=128∧∀x∈J7 s,aI x:=by
 refine⟨oq _ _ (Xg (Mk h)),lP ⟨by decide,by decide⟩ fun x hx=> ?_⟩;unfold qx at hx;simp only[Qz,QT] at hx;rcases hx with((((h1|h1)|⟨y,-,h1⟩)|⟨y,-,h1⟩)|h1)|h1
 ·exact eW _ _ x h1
 ·exact eW _ _ x h1
 ·exact eW _ _ x h1
 ·exact eW _ _ x h1
 ·rw[QJ h1];exact⟨by decide,by decide⟩
 ·exact eW _ _ x h1
def cZ (n:Nat):fk:=(fm (aE.new n) 2 (List.replicate (kN n) 0) (List.replicate (mN n) 0)).2
def zn (n:Nat):aN:=qE ⟨1,n,List.replicate 8 0,List.replicate 8 0⟩ (cZ n).au
def uN (n:Nat):List ri:=[.wr 0 iy,.wr 1 iy,.fl]++tR (cZ n).t (cZ n).ag (cZ n).au (gG (cZ n).pp) (gG (cZ n).pd)++[.fl,.wr 1 (J7 (zn n)),.fl]
structure UW (n:Nat):Prop where
 n0:16≤n
 n1:n≤4096
 e:(fm (aE.new n) 2 (List.replicate (kN n) 0) (List.replicate (mN n) 0)).1=0
 pl:anH (cZ n)∧(cZ n).t.len=n∧(cZ n).ag.length=kN n∧(cZ n).au.length=mN n
 x:bM (zn n)∧nm (zn n)=true∧bM (⟨1,n,List.replicate 8 0,List.replicate 8 0⟩:aN)∧∀d∈(cZ n).au,0≤d∧d≤65535
 st:∀s∈uN n,abp n s
theorem BE (h0:16≤n) (h1:n≤4096):1≤kN n∧kN n≤70∧1≤mN n∧mN n≤2∧61*(kN n - 1)<n∧61*(mN n - 1)<kN n:=by
 obtain⟨e1,e2⟩:=uK (n:=n) (by omega);unfold aR at e1 e2;rw[Xd (by omega)] at e1 e2;omega
theorem xK {l:List Bool} {i:Nat} (h:i∈gG l):i<l.length:=Zm.1 (List.mem_filter.1 h).1
theorem oo (l:List Bool):(gG l).length≤l.length:=by
 have:=List.length_filter_le (fun i=>l.getD i false) (List.range l.length);rw[List.length_range] at this;exact this
theorem yr (n:Nat) (hn:n≤100000) (w:Wo):(Instr.makeSlice 34 (.int .i64 n) (.int .i64 n)).run prog w= .ok (.slice (some ⟨w.heap.size,0,none⟩) n n) (w.alloc (.cells (List.replicate n (.int .i64 0)).toArray 3)):=
 eV underlying34 iE (eC .i64 0) (by decide) n hn w
structure Ua (W3 X:Wo) (k m g0 g1:Nat) (sb:Option Nat):Prop where
 low:Below W3.heap.size W3 X
 b0:aq X g0 3 (List.replicate k (.int .i64 0))
 b1:aq X g1 3 (List.replicate m (.int .i64 0))
 s:∀b,sb=some b→aq X b 36 [.slice none 0 0,.slice none 0 0]∧W3.heap.size≤b
theorem rC (w:Wo) (a b c:Obj):(((w.alloc a).alloc b).alloc c).heap[w.heap.size]? =some a:=by
 rw[Below.heap_alloc _ _ _ (by simp;omega)];exact dx w a b
theorem rB (w:Wo) (a b c:Obj):(((w.alloc a).alloc b).alloc c).heap[w.heap.size+1]? =some b:=by
 rw[Below.heap_alloc _ _ _ (by simp)];exact cL w a b
theorem rA (w:Wo) (a b c:Obj):(((w.alloc a).alloc b).alloc c).heap[w.heap.size+1+1]? =some c:=by
 have:=cL (w.alloc a) b c;rwa[World.size_alloc] at this
theorem abn (w:Wo) (a b:Obj):Below w.heap.size w ((w.alloc a).alloc b):=((Xj _ w).alloc (Qg _) a).alloc (by simp) b
theorem Ka (w:Wo) (a b c:Obj):Below w.heap.size w (((w.alloc a).alloc b).alloc c):=(abn w a b).alloc (by simp;omega) c
theorem amU (w:Wo) (k m:Nat):Ua w ((w.alloc (.cells (Array.replicate k (.int .i64 0)) 3)).alloc (.cells (Array.replicate m (.int .i64 0)) 3)).drew k m (w.heap.size) (w.heap.size+1) none:=by
 rw[←Zg,←Zg];exact⟨(abn w _ _).drew,dx w _ _,cL w _ _,fun b h=>by cases h⟩
theorem amT (w:Wo) (k m:Nat):Ua w ((w.alloc (.cells (Array.replicate m (.int .i64 0)) 3)).alloc (.cells (Array.replicate k (.int .i64 0)) 3)).drew k m (w.heap.size+1) (w.heap.size) none:=by
 rw[←Zg,←Zg];exact⟨(abn w _ _).drew,cL w _ _,dx w _ _,fun b h=>by cases h⟩
theorem ahH (w:Wo) (k m:Nat):Ua w (((w.alloc (.cells (Array.replicate k (.int .i64 0)) 3)).alloc (.cells (Array.replicate m (.int .i64 0)) 3)).alloc (.cells #[.slice none 0 0,.slice none 0 0] 36)).drew k m (w.heap.size) (w.heap.size+1) (some (w.heap.size+1+1)):=by
 rw[←Zg,←Zg];exact⟨(Ka w _ _ _).drew,rC w _ _ _,rB w _ _ _,fun b h=>by cases h;exact⟨rA w _ _ _,by omega⟩⟩
theorem ahG (w:Wo) (k m:Nat):Ua w (((w.alloc (.cells (Array.replicate k (.int .i64 0)) 3)).alloc (.cells #[.slice none 0 0,.slice none 0 0] 36)).alloc (.cells (Array.replicate m (.int .i64 0)) 3)).drew k m (w.heap.size) (w.heap.size+1+1) (some (w.heap.size+1)):=by
 rw[←Zg,←Zg];exact⟨(Ka w _ _ _).drew,rC w _ _ _,rA w _ _ _,fun b h=>by cases h;exact⟨rB w _ _ _,by omega⟩⟩
theorem ahF (w:Wo) (k m:Nat):Ua w (((w.alloc (.cells (Array.replicate m (.int .i64 0)) 3)).alloc (.cells (Array.replicate k (.int .i64 0)) 3)).alloc (.cells #[.slice none 0 0,.slice none 0 0] 36)).drew k m (w.heap.size+1) (w.heap.size) (some (w.heap.size+1+1)):=by
 rw[←Zg,←Zg];exact⟨(Ka w _ _ _).drew,rB w _ _ _,rC w _ _ _,fun b h=>by cases h;exact⟨rA w _ _ _,by omega⟩⟩
theorem ahE (w:Wo) (k m:Nat):Ua w (((w.alloc (.cells (Array.replicate m (.int .i64 0)) 3)).alloc (.cells #[.slice none 0 0,.slice none 0 0] 36)).alloc (.cells (Array.replicate k (.int .i64 0)) 3)).drew k m (w.heap.size+1+1) (w.heap.size) (some (w.heap.size+1)):=by
 rw[←Zg,←Zg];exact⟨(Ka w _ _ _).drew,rA w _ _ _,rC w _ _ _,fun b h=>by cases h;exact⟨rB w _ _ _,by omega⟩⟩
theorem ahD (w:Wo) (k m:Nat):Ua w (((w.alloc (.cells #[.slice none 0 0,.slice none 0 0] 36)).alloc (.cells (Array.replicate k (.int .i64 0)) 3)).alloc (.cells (Array.replicate m (.int .i64 0)) 3)).drew k m (w.heap.size+1) (w.heap.size+1+1) (some (w.heap.size)):=by
 rw[←Zg,←Zg];exact⟨(Ka w _ _ _).drew,rB w _ _ _,rA w _ _ _,fun b h=>by cases h;exact⟨rC w _ _ _,by omega⟩⟩
theorem ahC (w:Wo) (k m:Nat):Ua w (((w.alloc (.cells #[.slice none 0 0,.slice none 0 0] 36)).alloc (.cells (Array.replicate m (.int .i64 0)) 3)).alloc (.cells (Array.replicate k (.int .i64 0)) 3)).drew k m (w.heap.size+1+1) (w.heap.size+1) (some (w.heap.size)):=by
 rw[←Zg,←Zg];exact⟨(Ka w _ _ _).drew,rA w _ _ _,rB w _ _ _,fun b h=>by cases h;exact⟨rC w _ _ _,by omega⟩⟩
structure uF (w:Wo) (n tb:Nat) (sp sd wp wd:Va) (W:Wo):Prop where
 fh:∃cb mb,bf W tb cb mb (cZ n).t
 sp:Ns W W.heap.size .i64 sp (cZ n).ag
 sd:Ns W W.heap.size .i64 sd (cZ n).au
 wp:Ns W W.heap.size .i64 wp (eT (cZ n).pp)
 wd:Ns W W.heap.size .i64 wd (eT (cZ n).pd)
 low:Below w.heap.size w W
theorem uF.on {W' :Wo} (h:uF w n tb sp sd wp wd W) (hb:Below W.heap.size W W'):uF w n tb sp sd wp wd W' :=by
 obtain⟨cb,mb,ht⟩:=h.fh;exact⟨⟨cb,mb,ht.on hb⟩,(Sl.below h.sp hb).more hb.size,(Sl.below h.sd hb).more hb.size,(Sl.below h.wp hb).more hb.size,(Sl.below h.wd hb).more hb.size,h.low.trans (hb.mono h.low.size)⟩
theorem US.form {b:Nat} (h:US w b v xs):∃A c,v= .slice A xs.length c:=by
 obtain⟨A,c,e,-,-⟩:=Ns.form h.1;exact⟨A,c,e⟩
theorem Ns.apB {B:Nat} {k:IntKind} {T:TypeId} {cs:List Va} (h:Ns w B k v xs) (hb:aq w sb T cs) (hc:∀u∈cs,∀y,u≠ .int k y):Ap (fun x=>x=sb) v:=by
 intro b o n c hn e iV;obtain⟨A,c',hv,-,-⟩:=h.form;rw[hv] at e;injection e with e1 e2 e3
 obtain⟨b',o',c'',mQ,-,-,-,aH⟩:=h.cells (by omega);rw[hv] at mQ;injection mQ with f1 f2 f3
 rw[e1] at f1;injection f1 with f1
 injection f1 with f1 f4
 have h0:=aH 0 (by omega);rw[←f1,iV,cell_of_row w sb _ _ _ _ hb] at h0;exact hc _ (by have:=Qi (by simpa using h0);exact this) _ rfl
theorem oD:∀u∈([.slice none 0 0,.slice none 0 0]:List Va),∀y,u≠ .int .i64 y:=by
 intro u hu y e;subst e;simp at hu
theorem uF.set (h:uF w n tb sp sd wp wd W5) (hb:aq W5 sb 36 [.slice none 0 0,.slice none 0 0]) (hs:w.heap.size≤sb):
  uF w n tb sp sd wp wd ((W5.setCell ⟨sb,0,none⟩ sp).setCell ⟨sb,1,none⟩ sd)∧aq ((W5.setCell ⟨sb,0,none⟩ sp).setCell ⟨sb,1,none⟩ sd) sb 36 [sp,sd]∧w.heap.size≤sb:=by
 have hc:aG (fun x=>x=sb) W5 ((W5.setCell ⟨sb,0,none⟩ sp).setCell ⟨sb,1,none⟩ sd):=(kh W5 sb 0 sp).setCell (fun _=>rfl) sd;obtain⟨cb,mb,ht⟩:=h.fh;refine⟨⟨⟨cb,mb,ht.aL hc (fun e=>hb.ne ht.own (by decide) e.symm) (fun e=>hb.ne ht.counts (by decide) e.symm) (fun e=>hb.bS ht.kept e.symm)⟩,?_,?_,?_,?_,(h.low.setCell (p:=⟨sb,0,none⟩) hs _).setCell (p:=⟨sb,1,none⟩) hs _⟩,hb.NV sp sd,hs⟩
 ·exact(Sl.aL h.sp hc (Qg _) (h.sp.apB hb oD)).more hc.size
 ·exact(Sl.aL h.sd hc (Qg _) (h.sd.apB hb oD)).more hc.size
 ·exact(Sl.aL h.wp hc (Qg _) (h.wp.apB hb oD)).more hc.size
 ·exact(Sl.aL h.wd hc (Qg _) (h.wd.apB hb oD)).more hc.size
theorem uF.amS (h:uF w n tb sp sd wp wd W5):
  uF w n tb sp sd wp wd (W5.alloc (.cells #[sp,sd] 36))∧aq (W5.alloc (.cells #[sp,sd] 36)) W5.heap.size 36 [sp,sd]∧w.heap.size≤W5.heap.size:=
 ⟨h.on (aF W5 _),ar W5 [sp,sd] _,h.low.size⟩
theorem Ds (h0:cB W S d v0 s0) (h1:cB W S d v1 s1) (h2:cB W S d v2 s2) (hb:base≤W.heap.size):
  eB (W.alloc (.cells #[v0,v1,v2] 120)) base S d (.slice (some ⟨W.heap.size,0,none⟩) 3 3) [(v0,s0),(v1,s1),(v2,s2)]:=by
 refine⟨⟨rfl,.inr ⟨W.heap.size,3,#[v0,v1,v2],rfl,hb,heap_alloc_new W _,Qg _,by unfold maxLen;decide,rfl,rfl⟩⟩,fun p hp=> ?_⟩;have key:∀{v:Va} {s:ri},cB W S d v s→cB (W.alloc (.cells #[v0,v1,v2] 120)) (Iz S (some W.heap.size)) d v s:=fun h=>by
  refine cB.on (cB.set h fun x hx hT=> ?_) (aF W _);rcases hT with e|e
  ·exact e
  ·have:=Qr e;omega
 simp only[QA,QV,or_false] at hp;rcases hp with rfl|rfl|rfl
 ·exact key h0
 ·exact key h1
 ·exact key h2
theorem FF (h0:cB W S d v0 s0) (h1:cB W S d v1 s1) (h2:cB W S d v2 s2):
  Sl (W.alloc (.cells #[v0,v1,v2] 120)) (W.heap.size+1) 1 (.slice (some ⟨W.heap.size,0,none⟩) 3 3) [(v0,s0),(v1,s1),(v2,s2)].length ([(v0,s0),(v1,s1),(v2,s2)].map Prod.fst)∧∀p∈[(v0,s0),(v1,s1),(v2,s2)],cB (W.alloc (.cells #[v0,v1,v2] 120)) S d p.1 p.2:=by
 refine⟨kT rfl (Qg _) (by unfold maxLen;decide) (Jc W [v0,v1,v2] _),fun p hp=> ?_⟩;simp only[QA,QV,or_false] at hp;rcases hp with rfl|rfl|rfl
 ·exact h0.on (aF W _)
 ·exact h1.on (aF W _)
 ·exact h2.on (aF W _)
theorem dn.not_row {g:Nat} {bs:List Int} {e:TypeId} {sz:Nat} {xs:List Va} (h:dn w g bs) (he:5≠e) (ho:w.ownsRow base e sz v n xs):v.ownBlock≠some g:=by
 obtain⟨cs,h0,-,-⟩:=h;intro e1;rcases ho.2 with⟨rfl,_⟩|⟨g',cap,cur,rfl,_,h1,_⟩
 ·cases e1
 ·cases e1
  rw[h0] at h1;injection h1 with h1
  injection h1 with _ h2
  exact he h2
theorem VI {pl:Nat} {bl:List (List Int)} {l:List (Va×ri)} (h:cF w d pl bl) (hn:n=bl.length) (hd:∀x,DS d pl x→x<w.heap.size) (h0:UW n) (hb:Below w.heap.size w W) (ho:eB W w.heap.size (DS d pl) d v l) (hl:l.map Prod.snd=uN n) (hll:l.length≤9000):
  Calls prog 48 #[v] W fun e w' =>e= .returned (.int .i64 0)∧cF w' d pl (iW (bl,[]) (uN n)).1∧aG (DS d pl) W w' :=by
 rw[←hl];refine St W d pl bl (h.on hb) v l (Sl.bU ho.1) (fun b o m c hm e tF=> ?_) (fun p hp=>⟨(ho.2 p hp).is (fun x hx=> .inl hx),?_⟩) hll ?_
 ·subst e;exact XV.2 (Xr ho.1 b rfl).1 (hd b tF)
 ·rw[←hn];exact h0.st _ (by rw[←hl];exact List.mem_map_of_mem hp)
 ·rw[hl];unfold uN;rw[List.getLast?_append];rfl
theorem Gw (w:Wo) (d pl:Nat) (bl:List (List Int)) (h:cF w d pl bl) (hfo:UW bl.length):
  Calls prog 11 #[.pointer (some ⟨d,0,none⟩)] w fun e w' =>e= .returned (.int .i64 0)∧cF w' d pl (iW (bl,[]) (uN bl.length)).1∧aG (DS d pl) w w' :=by
 obtain⟨n,hn⟩:=eX bl.length;have h0:16≤n:=by rw[hn];exact h.n0
 have h1:n≤4096:=by rw[hn];exact h.n1
 have HL:=aa (zN w d pl n _ (by rw[hn];exact h.own));have HT:=aa (Cv w n (by omega) h1);obtain⟨e1,e2⟩:=uK (n:=n) (by omega);obtain⟨q1,q2,q3,q4,q5,q6⟩:=BE h0 h1;have Hq:=kH (by rw[hn];exact hfo:UW n) h1 q2 q4;clear hfo;obtain⟨k,hk⟩:=eX (kN n);obtain⟨m,hm⟩:=eX (mN n);rw[←hk,←hm] at e2;rw[←hk] at e1 q2;rw[←hm] at q4;have tp:=aa (fun W=>dY W n (by omega) (by omega));have AJ:=aa (fun W=>dY W k (by omega) (by omega));rw[←e1] at tp;rw[←e2] at AJ;have Az:=yr k (by omega);have Nf:=yr m (by omega);have xE:=dK hk hm;have H:=aa h;have Hn:=aa hn;have n1:(n:Int)≤4096:=by omega
 have n0:((n:Int)==0)=false:=Xc (by omega);rw[←hn];clear h h0 h1 e1 e2 q1 q2 q3 q4 q5 q6 hk hm hn;go_enter func11,ntmps11;go_upto_region 7 with(first
  |(go_at_call 39;go_must(refine HL.o.mono ?_);rintro e W2 ⟨rfl,rfl⟩)
  |(go_at_call 40;go_must(refine HT.o.mono ?_);rintro e W2 ⟨tb,cb,mb,rfl,t2,l1,l2,l3,b2⟩;have T2:=aa t2;have B2:=aa b2;have L2:Af (w.heap.size≤tb∧w.heap.size≤cb∧w.heap.size≤mb):=⟨l1,l2,l3⟩;have HNP:=aa (Cw W2 tb n 2 _ _ (by have:=t2.x0;rw[zG] at this;exact this) (by have:=Hq.o.1.n0;omega) (by have:=Hq.o.1.n0;omega));clear t2 b2 l1 l2 l3)
  |(go_at_call 41;go_must(refine HNP.o.mono ?_);rintro e W3 ⟨pb,rfl,lp,p3,b3⟩;have P3:=aa p3;have B3:=aa b3;have Lp:=aa lp;clear p3 b3 lp)
  |(go_at_call 36;go_must(refine(tp.o _).mono ?_);rintro e W4 ⟨rfl,rfl⟩))
 have HP:Af (∀X g0 g1 sb,Ua W3 X k m g0 g1 sb→Calls prog 42 #[.pointer (some ⟨tb,0,none⟩),.pointer (some ⟨pb,0,none⟩),.agg #[.slice (some ⟨g0,0,none⟩) k k,.slice (some ⟨g1,0,none⟩) m m]] X fun e W=>∃A1 n1 c1 A2 n2 c2 wp wd,e= .returned (.tuple #[.agg #[.slice A1 n1 c1,.slice A2 n2 c2],wp,wd,.int .i64 0])∧uF w n tb (.slice A1 n1 c1) (.slice A2 n2 c2) wp wd W∧W3.heap.size≤W.heap.size∧∀b,sb=some b→aq W b 36 [.slice none 0 0,.slice none 0 0]∧w.heap.size≤b):=by
  intro X g0 g1 sb hX;have jW:=B2.o.size;have hTX:=(T2.o.on B3.o).on hX.low;have hPX:=P3.o.on hX.low;have q:=Hq.o;have q16:=q.1.n0;have oI:Ns X X.heap.size .i64 (.slice (some ⟨g0,0,none⟩) k k) (List.replicate k 0):=by have:=hX.b0.sl (o:=0) (n:=k) (sz:=1) (c:=k) (by simp) (Qg _) (by unfold maxLen;have:=xE.o.1;omega);unfold Ns;rw[QK,List.map_replicate];rwa[Zl,Qj (by simp)] at this
  have mM:Ns X X.heap.size .i64 (.slice (some ⟨g1,0,none⟩) m m) (List.replicate m 0):=by have:=hX.b1.sl (o:=0) (n:=m) (sz:=1) (c:=m) (by simp) (Qg _) (by unfold maxLen;have:=xE.o.2;omega);unfold Ns;rw[QK,List.map_replicate];rwa[Zl,Qj (by simp)] at this
  obtain⟨e1,e2⟩:=uK (n:=n) (by omega);have hc:=FX X tb cb mb pb 2 (aE.new n) hTX hPX (Qg _) (by rw[zG];omega) _ _ (List.replicate k 0) (List.replicate m 0) oI mM (by rw[zG,QK,xE.o.1];exact e1) (by rw[QK,QK,xE.o.1,xE.o.2];exact e2)
   (fun y hy=>by rw[List.replicate_append_replicate] at hy;rw[QJ hy];exact⟨by decide,by decide⟩)
  refine hc.mono fun e W hW=> ?_
  obtain⟨⟨v,rfl,hv⟩,hT,hP,hC⟩:=hW;rw[xE.o.1,xE.o.2] at hv hT;have hf:=q.1.e;rcases hv with⟨h1,-⟩|⟨-,sp,sd,wp,wd,rfl,h2,h3,h4,h5⟩
  ·exact absurd hf h1
  ·have l2:=L2.o;have lp:=Lp.o;have hQ:∀x,QS pb tb cb mb x→w.heap.size≤x:=fun x hx=>by rcases hx with e|e|e|e<;>omega
   have hwX:=(B2.o.trans (B3.o.mono jW)).trans (hX.low.mono (Qh jW B3.o.size));obtain⟨A1,c1,rfl⟩:=h2.form;obtain⟨A2,c2,rfl⟩:=h3.form;refine⟨A1,_,c1,A2,_,c2,wp,wd,rfl,⟨⟨cb,mb,hT⟩,h2.1,h3.1,h4.ns,h5.ns,hwX.trans (hC.below hwX.size (fun x hx hq=>XV.2 (hQ x hq) hx))⟩,Qh hX.low.size hC.size,fun b hb=> ?_⟩;obtain⟨hs,Ey⟩:=hX.s b hb;refine⟨hs.aL hC ?_,Qh jW (Qh B3.o.size Ey)⟩;rintro(e|e|e|e)
   ·exact hs.ne hPX (by decide) e
   ·exact hs.ne hTX.own (by decide) e
   ·exact hs.ne hTX.counts (by decide) e
   ·exact hs.bS hTX.kept e
 have NG:=aa (Qh B2.o.size B3.o.size);go_cut [9,10,11,12] from 17 to 88 (fun v9 v10 v11 v12 W=>∃sb sp sd,v9= .pointer (some ⟨sb,0,none⟩)∧v12= .int .i64 0∧Af (uF w n tb sp sd v10 v11 W∧aq W sb 36 [sp,sd]∧w.heap.size≤sb))
 case first=>
  clear HL HT HNP T2 B2 L2 P3 B3 Lp Hq xE H Hn n1 n0 tp NG;go_region_law (first
   |(go_simp;(go_at_call 42);(with_reducible refine(HP.o _ _ _ _ (amU W3 k m)).mono ?_);rintro e W5 ⟨A1,n1,c1,A2,n2,c2,wp,wd,rfl,hF,cz,jq⟩;have F5:=aa hF;have Z5:=aa cz;clear hF cz jq)
   |(go_simp;(go_at_call 42);(with_reducible refine(HP.o _ _ _ _ (amT W3 k m)).mono ?_);rintro e W5 ⟨A1,n1,c1,A2,n2,c2,wp,wd,rfl,hF,cz,jq⟩;have F5:=aa hF;have Z5:=aa cz;clear hF cz jq)
   |(go_simp;(go_at_call 42);(with_reducible refine(HP.o _ _ _ _ (ahH W3 k m)).mono ?_);rintro e W5 ⟨A1,n1,c1,A2,n2,c2,wp,wd,rfl,hF,cz,jq⟩;have F5:=aa hF;have Z5:=aa cz;have S5:=aa (jq _ rfl);have z0:=S5.o.1.cell (j:=0) rfl;have z1:=S5.o.1.cell (j:=1) rfl;have f0:=S5.o.1.free 0;have f1:=S5.o.1.free 1;clear hF cz jq)
   |(go_simp;(go_at_call 42);(with_reducible refine(HP.o _ _ _ _ (ahG W3 k m)).mono ?_);rintro e W5 ⟨A1,n1,c1,A2,n2,c2,wp,wd,rfl,hF,cz,jq⟩;have F5:=aa hF;have Z5:=aa cz;have S5:=aa (jq _ rfl);have z0:=S5.o.1.cell (j:=0) rfl;have z1:=S5.o.1.cell (j:=1) rfl;have f0:=S5.o.1.free 0;have f1:=S5.o.1.free 1;clear hF cz jq)
   |(go_simp;(go_at_call 42);(with_reducible refine(HP.o _ _ _ _ (ahF W3 k m)).mono ?_);rintro e W5 ⟨A1,n1,c1,A2,n2,c2,wp,wd,rfl,hF,cz,jq⟩;have F5:=aa hF;have Z5:=aa cz;have S5:=aa (jq _ rfl);have z0:=S5.o.1.cell (j:=0) rfl;have z1:=S5.o.1.cell (j:=1) rfl;have f0:=S5.o.1.free 0;have f1:=S5.o.1.free 1;clear hF cz jq)
   |(go_simp;(go_at_call 42);(with_reducible refine(HP.o _ _ _ _ (ahE W3 k m)).mono ?_);rintro e W5 ⟨A1,n1,c1,A2,n2,c2,wp,wd,rfl,hF,cz,jq⟩;have F5:=aa hF;have Z5:=aa cz;have S5:=aa (jq _ rfl);have z0:=S5.o.1.cell (j:=0) rfl;have z1:=S5.o.1.cell (j:=1) rfl;have f0:=S5.o.1.free 0;have f1:=S5.o.1.free 1;clear hF cz jq)
   |(go_simp;(go_at_call 42);(with_reducible refine(HP.o _ _ _ _ (ahD W3 k m)).mono ?_);rintro e W5 ⟨A1,n1,c1,A2,n2,c2,wp,wd,rfl,hF,cz,jq⟩;have F5:=aa hF;have Z5:=aa cz;have S5:=aa (jq _ rfl);have z0:=S5.o.1.cell (j:=0) rfl;have z1:=S5.o.1.cell (j:=1) rfl;have f0:=S5.o.1.free 0;have f1:=S5.o.1.free 1;clear hF cz jq)
   |(go_simp;(go_at_call 42);(with_reducible refine(HP.o _ _ _ _ (ahC W3 k m)).mono ?_);rintro e W5 ⟨A1,n1,c1,A2,n2,c2,wp,wd,rfl,hF,cz,jq⟩;have F5:=aa hF;have Z5:=aa cz;have S5:=aa (jq _ rfl);have z0:=S5.o.1.cell (j:=0) rfl;have z1:=S5.o.1.cell (j:=1) rfl;have f0:=S5.o.1.free 0;have f1:=S5.o.1.free 1;clear hF cz jq)
   |(go_simp;(go_at_call 36);(with_reducible refine(AJ.o _).mono ?_);rintro e W4 ⟨rfl,rfl⟩))
  all_goals go_wp2_with fail
  all_goals go_meet
  all_goals first
   |exact⟨_,_,_,rfl,rfl,F5.o.set S5.o.1 S5.o.2⟩
   |exact⟨_,_,_,rfl,rfl,F5.o.amS⟩
   |exact⟨_,_,_,rfl,rfl,F5.o.new⟩
 case rest=>
  obtain⟨sb,sp,sd,rfl,rfl,HF⟩:=hcut;obtain⟨A1,k1,hsp,-,-⟩:=HF.o.1.sp.form;obtain⟨A2,k2,Eb,-,-⟩:=HF.o.1.sd.form;subst hsp Eb;have Ya:=aa HF.o.1;obtain⟨z0,z1⟩:=gh HF.o.2.1;clear HP tp AJ Az Nf HL HT HNP P3 T2 B3;obtain⟨ok1,To,ok3,ok4⟩:=Hq.o.1.x;obtain⟨nd,im⟩:=eX ((cZ n).au.length);obtain⟨np,ei⟩:=eX ((cZ n).ag.length);have Hl:=kH im ei (by rw[im,(Hq.o.1.pl).2.2.2];exact(BE Hq.o.1.n0 Hq.o.2.1).2.2.2.1:nd≤2) (by rw[ei,(Hq.o.1.pl).2.2.1];exact(BE Hq.o.1.n0 Hq.o.2.1).2.1:np≤70);rw[←im] at z1 HF Ya;rw[←ei] at z0 HF Ya;obtain⟨CX,hCX⟩:=eX (aP (zn n));have mn:Af (Calls prog 44 #[.agg #[.int .u64 1,.int .u32 n,.int .u32 0,.int .u32 0,.int .u32 0,.int .u32 0,.int .u32 0,.int .u32 0,.int .u32 0,.int .u32 0,.int .u64 0,.int .u64 0,.int .u64 0,.int .u64 0,.int .u64 0,.int .u64 0,.int .u64 0,.int .u64 0],.slice A2 nd k2] wc fun e w' =>e= .returned (.agg CX.toArray)∧Below wc.heap.size wc w'):=by rw[hCX];exact vA wc ⟨1,n,List.replicate 8 0,List.replicate 8 0⟩ ok3 _ (cZ n).au Ya.o.sd ok4 (by rw[←Hl.o.1];exact Qh Hl.o.2.2.1 (by decide))
  have HEx:Af (∀W,Calls prog 43 #[.agg CX.toArray] W (Made W (J7 (zn n)))):=fun W=>by rw[hCX];exact RW W (zn n) ok1 To
  have HxB:=aa (GK ok1);have Tt:IntKind.u32.wrap (n:Int)=n:=by unfold IntKind.wrap;simp[IntKind.signed,IntKind.bits];omega
  have HB:Af (Below w.heap.size w wc∧aq wc sb 36 [.slice A1 np k1,.slice A2 nd k2]∧w.heap.size≤sb):=⟨Ya.o.low,HF.o.2⟩;clear hCX ok1 To ok3 ok4 HF im ei;go_upto_region 9 with(first
   |(go_at_call 44;go_must(refine mn.o.mono ?_);rintro e W4 ⟨rfl,b4⟩;have B4:=aa b4;clear b4)
   |(go_at_call 43;go_must(refine(HEx.o _).mono ?_);rintro e W5 ⟨gx,pZ,rfl,o5,b5⟩;have O5:=aa o5;have B5:=aa b5;have Gx:=aa pZ;clear o5 b5 pZ))
  have B4' :=aa B4.o.size;have F5:=aa (Ya.o.on (B4.o.trans (B5.o.mono B4.o.size)));have Us:=aa (HB.o.1.trans ((B4.o.trans (B5.o.mono B4.o.size)).mono HB.o.1.size));have S5:=aa ((HB.o.2.1.on B4.o).on B5.o);obtain⟨W6,jc⟩:=eX (W5.alloc (.cells (List.replicate 128 (Value.int .u8 0)).toArray 5));obtain⟨gz,hgz⟩:=eX W5.heap.size;have yX:(Instr.makeSlice 87 (.int .i64 128) (.int .i64 128)).run prog W5= .ok (.slice (some ⟨gz,0,none⟩) 128 128) W6:=by have:=eV (P:=prog) underlying87 rD (eC .u8 0) (by decide) 128 (by decide) W5;rw[jc,hgz];exact this
  have B6:Af (Below W5.heap.size W5 W6):=by rw[jc];exact aF _ _
  have Z6:Af (dn W6 gz iy):=by
   have:aq W6 gz 5 (iy.map (.int .u8)):=by rw[jc,hgz,show iy.map (Value.int .u8)=List.replicate 128 (Value.int .u8 0) from List.map_replicate];exact ar _ _ _
   exact this.JZ
  have Hgz:Af (w.heap.size≤gz):=by show _≤_;rw[hgz];exact Us.o.size
  have E2:Af (∀x,DS d pl x→x<w.heap.size):=fun x hx=>by
   rcases hx with e|e
   ·rw[e];exact H.o.own.lt
   ·rw[e];exact H.o.eP.lt
  have B06:=aa (Us.o.trans (B6.o.mono Us.o.size));have hzb:Bs W6 W6.heap.size (.slice (some ⟨gz,0,none⟩) 128 128) iy:=Z6.o.whole (by simp[iy]) (fun x hx=>by unfold iy at hx;rw[QJ hx];exact⟨by decide,by decide⟩)
  have hza:Ap (DS d pl) (.slice (some ⟨gz,0,none⟩) 128 128):=jD fun e=>XV.2 Hgz.o (E2.o gz e)
  have EK:=aa (nF W6 (DS d pl) d 0 _ iy hzb hza (fun x hx=>Qn (E2.o x hx) B06.o.size));have tp:=aa (fun (W7:Wo) (hW:Below W6.heap.size W6 W7)=>nF W7 (DS d pl) d 1 (.slice (some ⟨gz,0,none⟩) 128 128) iy ⟨(hzb.1.below hW).more hW.size,hzb.2⟩ hza (fun x hx=>Qn (E2.o x hx) (Qh B06.o.size hW.size)));rw[show((0:Nat):Int)=(0:Int) from rfl] at EK;rw[show((1:Nat):Int)=(1:Int) from rfl] at tp;clear jc hgz hzb hza mn HEx B4 z0 z1 Ya;go_upto_region 11 with(first
   |((go_at_call 45;with_reducible refine EK.o.mono ?_);go_must(skip);rintro e W7 ⟨fv0,rfl,s7,b7⟩;have S7:=aa s7;have B7:=aa b7;clear s7 b7)
   |((go_at_call 45;with_reducible refine(tp.o _ B7.o).mono ?_);go_must(skip);rintro e W8 ⟨fv1,rfl,s8,b8⟩;have S8:=aa s8;have B8:=aa b8;clear s8 b8))
  have Ir:∀W,cB W (DS d pl) d (.func (.func 46) #[.pointer (some ⟨d,0,none⟩)] #[]) .fl:=fun W=>rfl
  have B68:=aa (B7.o.trans (B8.o.mono B7.o.size));have B08:=aa (B06.o.trans (B68.o.mono B06.o.size));have OS9:=aa (Ds (S7.o.on B8.o) S8.o (Ir W8) B08.o.size);have b9:=aF W8 (.cells #[fv0,fv1,.func (.func 46) #[.pointer (some ⟨d,0,none⟩)] #[]] 120);have hgs:W8.heap.size<(W8.alloc (.cells #[fv0,fv1,.func (.func 46) #[.pointer (some ⟨d,0,none⟩)] #[]] 120)).heap.size:=by simp
  obtain⟨W9,ED⟩:=eX (W8.alloc (.cells #[fv0,fv1,.func (.func 46) #[.pointer (some ⟨d,0,none⟩)] #[]] 120));rw[←ED] at OS9 b9 hgs⊢;obtain⟨gs,aa4⟩:=eX W8.heap.size;rw[←aa4] at OS9 hgs⊢;have Yk:=aa ((B6.o.trans (B68.o.mono B6.o.size)).trans (b9.mono (Qh B6.o.size B68.o.size)));have B09:=aa (Us.o.trans (Yk.o.mono Us.o.size));have F9:=aa (F5.o.on Yk.o);have S9:=aa (S5.o.on Yk.o);have Hgs:=dK (by rw[aa4];exact B08.o.size:w.heap.size≤gs) hgs;obtain⟨z0,z1⟩:=gh S9.o;obtain⟨ug,mb',ht9⟩:=F9.o.fh;obtain⟨p1,p2,p3,p4⟩:=Hq.o.1.pl;have cH:=BE Hq.o.1.n0 Hq.o.2.1;have EJ:=aa (KZ W9 (fun x=>DS d pl x∨x=gs) d tb ug mb' (cZ n).t ht9 (fun x hx=>by
    rcases hx with e|e
    ·exact Qn (E2.o x e) B09.o.size
    ·rw[e];exact Hgs.o.2) (.slice A1 np k1) (.slice A2 nd k2) u10 u11 (cZ n).ag (cZ n).au (gG (cZ n).pp) (gG (cZ n).pd) F9.o.sp F9.o.sd F9.o.wp F9.o.wd
    (by rw[←Hl.o.2.1];exact Qh Hl.o.2.2.2 (by decide)) (by rw[←Hl.o.1];exact Qh Hl.o.2.2.1 (by decide))
    (Qh (oo _) (by rw[p1.lp,←Hl.o.2.1];exact Qh Hl.o.2.2.2 (by decide))) (Qh (oo _) (by rw[p1.ld,←Hl.o.1];exact Qh Hl.o.2.2.1 (by decide)))
    (fun x hx=>by have:=p1.rg x hx;rw[p2] at this;have:=Hq.o.2.1;omega)
    (fun i hi=>by have:=xK hi;rw[p1.lp] at this;refine⟨this,?_⟩;rw[p2];rw[p3] at this;omega)
    (fun i hi=>by have:=xK hi;rw[p1.ld] at this;refine⟨this,?_⟩;rw[p3];rw[p4] at this;omega))
  clear ED aa4 b9 hgs p1 p2 p3 p4 cH ht9 EK tp;obtain⟨P,hP⟩:=eX (tR (cZ n).t (cZ n).ag (cZ n).au (gG (cZ n).pp) (gG (cZ n).pd));have HPl:Af (P.length≤200):=by show _≤_;obtain⟨p1,-,-,-⟩:=Hq.o.1.pl;have l1:=oo (cZ n).pp;have l2:=oo (cZ n).pd;rw[p1.lp,←Hl.o.2.1] at l1;rw[p1.ld,←Hl.o.1] at l2;rw[hP];unfold tR;rw[Qo,Qq,Qq];exact Qh (Nat.add_le_add (Qh l1 Hl.o.2.2.2) (Qh l2 Hl.o.2.2.1)) (by decide)
  have HPe:=aa hP;rw[←hP] at EJ;have HX:Af (∀W v l,W.heap[gx]? =W9.heap[gx]?→W9.heap.size≤W.heap.size→eB W w.heap.size (DS d pl) d v l→Calls prog 45 #[.pointer (some ⟨d,0,none⟩),.int .i64 1,.slice (some ⟨gx,0,none⟩) 128 128] W fun e w' =>∃fv,e= .returned (.agg #[fv])∧cB w' (Iz (DS d pl) v.ownBlock) d fv (.wr 1 (J7 (zn n)))∧Below W.heap.size W w'):=by
   intro W v l hg hW ho;have hx9:=(O5.o.aQ (w' :=W9) (Yk.o.block gx O5.o.lt)).aQ (w' :=W) hg;refine nF W _ d 1 _ _ (hx9.whole HxB.o.1 HxB.o.2) (jD fun e=> ?_) (eB.OC ho (fun x hx=>Qn (E2.o x hx) (Qh B09.o.size hW)));rcases e with e|e
   ·have h1:=E2.o gx e;have h2:=Gx.o;have h3:=HB.o.1.size;have h4:=B4'.o;exact XI _ (Qn h1 (Qh h3 (Qh h4 h2)))
   ·exact dn.not_row hx9 (by decide) ho.1 e
  clear hP;go_upto_region 12 with(first
   |(go_at_call 47;go_must(refine EJ.o.mono ?_);rintro e uh ⟨vp,lp,rfl,op,Wt,wC⟩;obtain⟨Av,cv,rfl⟩:=op.bu;have QP1:=aa (Sl.bU op.1);have QP2:Af (∀p∈lp,cB uh (Iz (DS d pl) (Value.slice (some ⟨gs,0,none⟩) 3 3).ownBlock) d p.1 p.2):=(fun p hp=>(op.2 p hp).set (fun x hx hT=>hT.elim (fun h=> .inl (.inl h)) (fun h=> .inl (.inr (Qr h).symm))));have HLp:=aa Wt;have oU:=aa wC;have ag7:=aa (OS9.o.on wC);have za:Af (lp.length≤200):=(by show _≤_;have:=XF List.length Wt;rw[Qq] at this;rw[this];exact HPl.o);clear op Wt wC)
   |(at_builtin;(with_reducible refine wl_app_st (os:= .tmp 68) (ox:= .tmp 74) (base:=w.heap.size) (m:=lp) ag7.o QP1.o QP2.o ?_ ?_ ?_ ?_ ?_);go_must(((·have:=za.o;simp;omega);(·exact Qh B09.o.size oU.o.size);(·rfl);(·rfl);intro v11 MP Y9 g11;obtain⟨A11,n11,c11,rfl⟩:=Y9.form;have O11:=aa Y9;have G11:=aa g11;have tl:=aa (HX.o MP _ _ ((g11.block gx (Qn O5.o.lt (Qh Yk.o.size oU.o.size)) (fun e=>dn.not_row ((O5.o.aQ (w' :=W9) (Yk.o.block gx O5.o.lt)).aQ (w' :=uh) (oU.o.block gx (Qn O5.o.lt Yk.o.size))) (by decide) ag7.o.1 e.symm)).trans (oU.o.block gx (Qn O5.o.lt Yk.o.size))) (Qh oU.o.size g11.size) Y9);clear Y9 g11)))
   |(go_at_call 45;go_must(refine tl.o.mono ?_);rintro e Bg ⟨fvx,rfl,s12,Be⟩;have S12:=aa s12;have Ur:=aa Be;have aa5:∀W,cB W (Iz (DS d pl) (Value.slice A11 n11 c11).ownBlock) d (.func (.func 46) #[.pointer (some ⟨d,0,none⟩)] #[]) .fl:=(fun W=>rfl);have T13:=aa (FF (aa5 Bg) s12 (aa5 Bg));have O13:=aa ((O11.o.on Be).on (aF Bg (.cells #[.func (.func 46) #[.pointer (some ⟨d,0,none⟩)] #[],fvx,.func (.func 46) #[.pointer (some ⟨d,0,none⟩)] #[]] 120)));clear s12 Be aa5)
   |(at_builtin;(with_reducible refine wl_app_st (os:= .tmp 75) (ox:= .tmp 85) (base:=w.heap.size) O13.o T13.o.1 T13.o.2 ?_ ?_ ?_ ?_ ?_);go_must((·have:=za.o;simp;omega);(·exact Qh B09.o.size (Qh oU.o.size (Qh G11.o.size (Qh Ur.o.size (by simp)))));(·rfl);(·rfl);intro v14 W14 o14 g14;have TZ:=aa o14;have G14:=aa g14;clear o14 g14)))
  have L10:=B09.o.trans (oU.o.mono B09.o.size);have L11:=L10.grown G11.o L10.size (fun j e=>by cases e;exact Hgs.o.1);have L13:=(L11.trans (Ur.o.mono L11.size)).trans ((aF Bg (.cells #[.func (.func 46) #[.pointer (some ⟨d,0,none⟩)] #[],fvx,.func (.func 46) #[.pointer (some ⟨d,0,none⟩)] #[]] 120)).mono (Qh L11.size Ur.o.size));have L14:=aa (L13.grown G14.o L13.size (fun j e=>(Xr O13.o.1 j e).1));have an8:=aa (VI H.o Hn.o E2.o Hq.o.1 L14.o TZ.o (by rw[QL,QL,HLp.o,HPe.o];rfl) (by have:=za.o;simp;omega));clear L10 L11 L13 HX EJ;go_wp2_with(go_at_call 48;go_must(refine an8.o.mono ?_);rintro e TX ⟨rfl,d15,c15⟩;have D15:=aa d15;have C15:=aa c15;clear d15 c15);go_ret;exact⟨rfl,D15.o,(aG.aZ L14.o).trans C15.o⟩
end
section
open Go.RowKit
section
variable {P : Program} {e : TypeId} {k : IntKind}
theorem Cn (w:Wo) (he:(isAgg e).run P w= .ok false w) (xs:List Int) (i:Nat) (hi:i<xs.length):(part e (xs.map (Value.int k)).toArray (i*1)).run P w= .ok (.int k xs[i]) w:=by
 unfold part;simp only[Sem.run_bind,he,XH,Xn,if_false,Nat.mul_one];rw[show((xs.map (Value.int k)).toArray)[i]? =some (.int k xs[i]) by simp[hi]];rfl
theorem qW (w:Wo) (d:Nat) (he:(isAgg e).run P w= .ok false w) (hu:P.underlying e=some (.int k)) (xs ys:List Int) (hl:xs.length=ys.length):∀is:List Nat,(∀i∈is,i<xs.length)→
  (Op.eqItems (d+1) e 1 (xs.map (Value.int k)).toArray (ys.map (Value.int k)).toArray is).run P w= .ok (is.all fun i=>xs.getD i 0==ys.getD i 0) w
 |[],_=>by simp[Op.eqItems]
 |i::r,h=>by
  have hi:=h i (by simp);have ih:=qW w d he hu xs ys hl r (fun j hj=>h j (by simp[hj]));simp only[Op.eqItems,Sem.run_bind,Cn w he xs i hi,Cn w he ys i (by omega),run_equalIn_int w d e k k _ _ hu,XH];rw[List.all_cons,Qe,Qe,Qf hi,Qf (by omega:i<ys.length)];simp only[Option.getD_some]
  cases hb:(xs[i]==ys[i])
  ·simp
  ·simpa using ih
theorem Ax (xs ys:List Int) (hl:xs.length=ys.length):((List.range xs.length).all fun i=>xs.getD i 0==ys.getD i 0)=decide (xs=ys):=by
 rw[XD,XT,XS];constructor
 ·intro h;apply List.ext_getElem hl;intro i h1 h2;have:=h i (Zm.2 h1);rw[Qe,Qe,Qf h1,Qf h2] at this;simpa using this
 ·rintro rfl i _;simp
theorem zP (w:Wo) (d:Nat) {t:TypeId} {n:Nat} (hu:P.underlying t=some (.array n e)) (hc:P.cellsOf e=1) (he:(isAgg e).run P w= .ok false w) (hk:P.underlying e=some (.int k)) (xs ys:List Int) (hx:xs.length=n) (hy:ys.length=n):
  (Op.equalIn (d+2) t (.agg (xs.map (Value.int k)).toArray) (.agg (ys.map (Value.int k)).toArray)).run P w= .ok (decide (xs=ys)) w:=by
 obtain⟨i,hi⟩:=info_of_underlying hk;rw[show d+2=(d+1)+1 from rfl,run_equalIn_array w (d+1) _ _ hu hi,hc,qW w d he hk xs ys (hx.trans hy.symm) _ (fun j hj=>by rw[hx];exact Zm.1 hj),←hx,Ax xs ys (hx.trans hy.symm)]
end
theorem tO {s:aN} (h:bM s):(aP s).toArray.extract 2 10=(s.roots.map (Value.int .u32)).toArray∧(aP s).toArray.extract 10 18=(s.marks.map (Value.int .u64)).toArray∧(aP s).toArray[0]? =some (.int .u64 s.gen)∧(aP s).toArray[1]? =some (.int .u32 s.blocks):=by
 have h8:=h.r8;have m8:=h.m8;refine⟨?_,?_,rfl,rfl⟩
 ·apply Array.ext';unfold aP;simp[h8]
 ·apply Array.ext';unfold aP;simp[h8];exact Qj (by simp[m8])
theorem ahy (w:Wo) (x y:aN) (hx:bM x) (hy:bM y):(Op.equalIn 10000 41 (.agg (aP x).toArray) (.agg (aP y).toArray)).run prog w= .ok (decide (x=y)) w:=by
 obtain⟨x1,x2,x3,x4⟩:=tO hx;obtain⟨y1,y2,y3,y4⟩:=tO hy;have hr:∀d,(Op.equalIn (d+2) 38 (.agg (x.roots.map (Value.int .u32)).toArray) (.agg (y.roots.map (Value.int .u32)).toArray)).run prog w= .ok (decide (x.roots=y.roots)) w:=fun d=>zP w d (P:=prog) (e:=23) (n:=8) underlying38 (by kernel_rfl) (by kernel_rfl) underlying23 x.roots y.roots hx.r8 hy.r8
 have hm:∀d,(Op.equalIn (d+2) 39 (.agg (x.marks.map (Value.int .u64)).toArray) (.agg (y.marks.map (Value.int .u64)).toArray)).run prog w= .ok (decide (x.marks=y.marks)) w:=fun d=>zP w d (P:=prog) (e:=22) (n:=8) underlying39 (by kernel_rfl) (by kernel_rfl) underlying22 x.marks y.marks hx.m8 hy.m8
 have f0:∀d,(Op.equalIn (d+1) 22 (.int .u64 x.gen) (.int .u64 y.gen)).run prog w= .ok (x.gen==y.gen) w:=fun d=>run_equalIn_int w d _ .u64 .u64 _ _ underlying22
 have f1:∀d,(Op.equalIn (d+1) 23 (.int .u32 x.blocks) (.int .u32 y.blocks)).run prog w= .ok (x.blocks==y.blocks) w:=fun d=>run_equalIn_int w d _ .u32 .u32 _ _ underlying23
 have p0:∀s:aN,(part 22 (aP s).toArray 0).run prog w= .ok (.int .u64 s.gen) w:=fun s=>by
  have h2:(isAgg 22).run prog w= .ok false w:=by kernel_rfl
  unfold part;simp only[Sem.run_bind,h2,XH,Xn,if_false];rfl
 have p1:∀s:aN,(part 23 (aP s).toArray 1).run prog w= .ok (.int .u32 s.blocks) w:=fun s=>by
  have h2:(isAgg 23).run prog w= .ok false w:=by kernel_rfl
  unfold part;simp only[Sem.run_bind,h2,XH,Xn,if_false];rfl
 have p2:∀s:aN,bM s→(part 38 (aP s).toArray 2).run prog w= .ok (.agg (s.roots.map (Value.int .u32)).toArray) w:=fun s hs=>by
  have h2:(isAgg 38).run prog w= .ok true w:=by kernel_rfl
  have h3:(sizeOf 38).run prog w= .ok 8 w:=by kernel_rfl
  unfold part;simp only[Sem.run_bind,h2,h3,XH,if_true,Sem.run_pure];rw[←(tO hs).1]
 have p3:∀s:aN,bM s→(part 39 (aP s).toArray 10).run prog w= .ok (.agg (s.marks.map (Value.int .u64)).toArray) w:=fun s hs=>by
  have h2:(isAgg 39).run prog w= .ok true w:=by kernel_rfl
  have h3:(sizeOf 39).run prog w= .ok 8 w:=by kernel_rfl
  unfold part;simp only[Sem.run_bind,h2,h3,XH,if_true,Sem.run_pure];rw[←(tO hs).2.1]
 have hu:prog.underlying 41=some (.struct (prog.fieldsOf 41)):=by kernel_rfl
 have hp:prog.stoodInHeld 41=false:=by kernel_rfl
 rw[run_equalIn_struct w 9999 _ _ _ hu hp];have e2:∀xs ys,Op.eqFields 9999 xs ys (prog.fieldsOf 41).toList=(do
   let a ←part 22 xs 0
   let b ←part 22 ys 0
   let r ←Op.equalIn 9999 22 a b
   if(!r)=true then pure false else do
   let a ←part 23 xs 1
   let b ←part 23 ys 1
   let r ←Op.equalIn 9999 23 a b
   if(!r)=true then pure false else do
   let a ←part 38 xs 2
   let b ←part 38 ys 2
   let r ←Op.equalIn 9999 38 a b
   if(!r)=true then pure false else do
   let a ←part 39 xs 10
   let b ←part 39 ys 10
   let r ←Op.equalIn 9999 39 a b
   if(!r)=true then pure false else pure true):=fun xs ys=>by kernel_rfl
 rw[e2];simp only[Sem.run_bind,p0,p1,p2 x hx,p2 y hy,p3 x hx,p3 y hy,XH,f0 9998,f1 9998,hr 9997,hm 9997,Sem.run_ite,Sem.run_pure];have key:decide (x=y)=((x.gen==y.gen)&&((x.blocks==y.blocks)&&(decide (x.roots=y.roots)&&decide (x.marks=y.marks)))):=by
  rw[XD];simp only[XS,XR,beq_iff_eq];constructor
  ·rintro rfl;exact⟨rfl,rfl,rfl,rfl⟩
  ·rintro⟨h1,h2,h3,h4⟩;cases x;cases y
   simp only at h1 h2 h3 h4;rw[h1,h2,h3,h4]
 rw[key];cases(x.gen==y.gen)<;>cases(x.blocks==y.blocks)<;>cases decide (x.roots=y.roots)<;>cases decide (x.marks=y.marks)<;>simp
end
end Go.Proofs.YthgdhacopamklaaGreat

/- What HashNone asks, part 28 of 41: parts of the walks and laws, each true as it stands. -/
import Derived.Test.YthgdhacopamklaaGreatTBA
set_option maxHeartbeats 16000000
set_option maxRecDepth 100000
set_option linter.unusedVariables false
set_option linter.unusedSimpArgs false
namespace Go.Proofs.YthgdhacopamklaaGreat
open Go.Proofs.Tryz
section
open Go.RowKit Go.Shelf
attribute [local go_sem] Oper.semAt_some
variable {dv pv : Va} {ps : List (Option (Nat × Nat))} {T' : Nat → Prop} {w1 : Wo} {t : aE}
structure acA (T:Nat→Prop) (pv dv:Va) (ps:List (Option (Nat×Nat))):Prop where
 pa:Ap T pv
 da:Ap T dv
 fa:∀i g c,ps.getD i none=some (g,c)→¬T g
structure cS (T:Nat→Prop) (w:Wo) (I:bF) (s:aX):Prop where
 at_:cR w I s
 rows:∃pv dv ps,dB w I s pv dv ps∧acA T pv dv ps
 lt:∀x,T x→x<w.heap.size
 no:∀x,T x→¬BS I x
section
variable {T : Nat → Prop} {w w' : Wo} {I : bF} {s : aX}
theorem dB.on (h:dB w I s pv dv ps) (hb:Below w.heap.size w w'):dB w' I s pv dv ps:=h.aL (S:=fun _=>False) (aG.aZ hb) (fun _ e=>e.elim) id id
theorem cS.on (h:cS T w I s) (hb:Below w.heap.size w w'):cS T w' I s:=by
 obtain⟨pv,dv,ps,hc,hr⟩:=h.rows;exact⟨h.at_.on hb,⟨pv,dv,ps,hc.on hb,hr⟩,fun x hx=>Qn (h.lt x hx) hb.size,h.no⟩
theorem cR.new (h:cR w I s) (hb:Below w.heap.size w w') (h1:∀x,T x→w.heap.size≤x) (h2:∀x,T x→x<w'.heap.size):cS T w' I s:=by
 obtain⟨pv,dv,ps,hc⟩:=h.cells;have hn:∀x,x<w.heap.size→¬T x:=fun x hx e=>absurd (h1 x e) (Nat.not_le.2 hx)
 refine⟨h.on hb,⟨pv,dv,ps,hc.on hb,Sl.ap hc.ag hn,Sl.ap hc.au hn,fun i g c hi=> ?_⟩,h2,fun x hx e=>absurd (h1 x hx) (Nat.not_le.2 (h.lt x e))⟩;rcases hc.kz.2 i with⟨e,-⟩|⟨g',c',data,e,-,iV,-,hl⟩
 ·rw[hi] at e;cases e
 ·rw[hi] at e;cases e
  exact fun ht=>Sl.ap (S:=T) iV.1 hn g 0 128 c (by decide) rfl ht
theorem cS.mono (h:cS T w I s) (hT:∀x,T' x→T x):cS T' w I s:=by
 obtain⟨pv,dv,ps,hc,hr⟩:=h.rows;exact⟨h.at_,⟨pv,dv,ps,hc,hr.pa.mono hT,hr.da.mono hT,fun i g c hi e=>hr.fa i g c hi (hT g e)⟩,fun x hx=>h.lt x (hT x hx),fun x hx=>h.no x (hT x hx)⟩
theorem cS.more (h:cS T w I s) (hb:Below w.heap.size w w') (h1:∀x,T' x→T x∨w.heap.size≤x) (h2:∀x,T' x→x<w'.heap.size):cS T' w' I s:=by
 obtain⟨pv,dv,ps,hc,hr⟩:=h.rows;refine⟨h.at_.on hb,⟨pv,dv,ps,hc.on hb,Sl.apart hc.ag hr.pa h1,Sl.apart hc.au hr.da h1,fun i g c hi e=> ?_⟩,h2,fun x hx e=>(h1 x hx).elim (fun q=>h.no x q e) (fun q=>absurd (h.at_.lt x e) (XV.2 q))⟩;rcases h1 g e with q|q
 ·exact hr.fa i g c hi q
 ·rcases hc.kz.2 i with⟨e,-⟩|⟨g',c',data,e,-,iV,-,hl⟩
  ·rw[hi] at e;cases e
  ·rw[hi] at e;cases e
   exact Sl.ap (S:=fun x=>w.heap.size≤x) iV.1 (fun x hx=>Nat.not_le.2 hx) g 0 128 c (by decide) rfl q
theorem cS.aL (h:cS T w I s) (hc:aG T w w'):cS T w' I s:=by
 obtain⟨pv,dv,ps,c,hr⟩:=h.rows;have hn:∀x,BS I x→¬T x:=fun x hx e=>h.no x e hx
 have cc:dB w' I s pv dv ps:=by
  refine⟨c.own.aL hc (hn _ (.inl rfl)),Sl.more (Sl.aL c.ag hc (Qg _) hr.pa) hc.size,c.ed,Sl.more (Sl.aL c.au hc (Qg _) hr.da) hc.size,c.fT,c.jg.aL hc (hn _ (.inr (.inr (.inr (.inr (.inr (.inr (.inr rfl)))))))),⟨c.kz.1,fun i=> ?_⟩⟩;rcases c.kz.2 i with e|⟨g,cp,data,h1,h2,h3,h4,h5⟩
  ·exact .inl e
  ·exact .inr ⟨g,cp,data,h1,h2,⟨(h3.1.aL hc (Qg _) (jD (hr.fa i g cp h1))).more hc.size,h3.2⟩,h4,h5⟩
 refine⟨⟨⟨pv,dv,ps,cc⟩,?_,h.at_.fh.aL hc (hn _ (.inr (.inr (.inr (.inl rfl))))) (hn _ (.inr (.inr (.inr (.inr (.inl rfl)))))) (hn _ (.inr (.inr (.inr (.inr (.inr (.inl rfl))))))),h.at_.pick.aL hc (hn _ (.inr (.inr (.inr (.inr (.inr (.inr (.inl rfl)))))))),h.at_.mf,h.at_.ok⟩,⟨pv,dv,ps,cc,hr⟩,fun x hx=>Qn (h.lt x hx) hc.size,h.no⟩;exact{h.at_.dM with own:=h.at_.dM.own.aL hc (hn _ (.inr (.inl rfl))),eP:=h.at_.dM.eP.aL hc (hn _ (.inr (.inr (.inl rfl))))}
theorem cS.set (h:cS T w I s) {p:Addr} (hp:T p.block) (u:Va):cS T (w.setCell p u) I s:=h.aL ((aG.refl T w).setCell (fun _=>hp) u)
theorem cS.putObj (h:cS T w I s) {l:Nat} {o:Obj} (hl:w.heap[l]? =some o) (hc:o.isCells=false) (hS:¬BS I l) (o' :Obj):cS T (w.putObj l o') I s:=by
 obtain⟨pv,dv,ps,uf,hr⟩:=h.rows;have q:aG (fun x=>x=l) w (w.putObj l o'):=fY _ _ _ _ rfl;have hn:∀x,BS I x→¬(x=l):=fun x hx e=>hS (e▸hx)
 have cz:(w.putObj l o').heap.size=w.heap.size:=World.putObj_size;refine⟨h.at_.putObj hl hc hS o',⟨pv,dv,ps,⟨uf.own.aL q (hn _ (.inl rfl)),?_,uf.ed,?_,uf.fT,uf.jg.aL q (hn _ (.inr (.inr (.inr (.inr (.inr (.inr (.inr rfl)))))))),⟨uf.kz.1,fun i=> ?_⟩⟩,hr⟩,fun x hx=>by rw[cz];exact h.lt x hx,h.no⟩
 ·rw[cz];exact pF uf.ag (Qg _) (by decide) hl hc o'
 ·rw[cz];exact pF uf.au (Qg _) (by decide) hl hc o'
 ·refine(uf.kz.2 i).imp id fun ⟨g,c,data,h1,h2,h3,h4,h5⟩=>⟨g,c,data,h1,h2,⟨?_,h3.2⟩,h4,h5⟩
  rw[cz];exact pF h3.1 (Qg _) (by decide) hl hc o'
end
theorem cR.Vi {w w2:Wo} {I:bF} {s:aX} (h:cR w I s) (c:dB w I s pv dv ps) {S:Nat→Prop} (hS:∀x,S x→x=I.pb∨TS I.tb I.cb I.mb x) (hc:aG S w w1) (hg:w1.grownBy w2 (some I.fb))
  {next:Nat} {DX :List (Option (Nat×Nat))} {fr:List (Option (List Int))}
  (hm:MG Ud w2 I.fb (du (jf DX)) (nS (jf DX))) (hf:df w2 I DX fr):
  dB w2 I {s with t:=t,next:=next,fresh:=fr} pv dv DX :=by
 obtain⟨f1,f2,f3,f4,f5,f6,f7⟩:=h.J5;obtain⟨-,hd⟩:=h.Fp hS hc;have yZ:¬S I.b:=by
  intro hs;obtain⟨n1,n2,n3,n4,n5,n6,n7⟩:=h.uJ;rcases hS _ hs with e|e|e|e
  ·exact n6 e
  ·exact n3 e
  ·exact n4 e
  ·exact n5 e
 have hSB:∀x,S x→BS I x:=fun x hx=>IV x (hS x hx)
 have jY:=aG.dH hg (fun x _ e=>(Qr e).symm);have Bb:∀x,x=I.fb→BS I x:=fun x e=>by unfold BS;simp[e]
 have p1:=Sl.more (Sl.aL c.ag hc (Qg _) (c.ed.mono hSB)) hc.size;have d1:=Sl.more (Sl.aL c.au hc (Qg _) (c.fT.mono hSB)) hc.size;exact⟨(c.own.aL hc yZ).aL jY (Xm f7),Sl.more (Sl.aL p1 jY (Qg _) (c.ed.mono Bb)) jY.size,c.ed,Sl.more (Sl.aL d1 jY (Qg _) (c.fT.mono Bb)) jY.size,c.fT,hm,hf⟩
theorem vE (T:Nat→Prop) (w:Wo) (I:bF) (s:aX) (hT:cS T w I s) (v:Va) (data:List Int) (hd:Bs w w.heap.size v data) (ha:Ap (BS I) v):
  Calls prog 72 #[.pointer (some ⟨I.b,0,none⟩),v] w fun e w' =>e= .returned (.tuple #[.int .i64 (s.put data).1,.int .i64 (s.put data).2.1])∧cS T w' I (s.put data).2.2∧aG (BS I) w w' :=by
 have h:=hT.at_;have HT_:=aa hT;clear hT;have HM:=aa (nJ w I s h);have HR:=aa (ou w I s h);obtain⟨A,c,rfl,-,-⟩:=hd.1.form;have hn:=h.n0;by_cases e8:s.broken=true
 ·have es:s.put data=(0,111,s):=by unfold aX.put;rw[Xo e8]
  have em:s.may=111:=by unfold aX.may;rw[Xo e8]
  rw[em] at HM;rw[es];clear h hd ha hn e8 em es;go_enter func72,ntmps72;go_wp2_with(go_at_call 83;go_must(refine HM.o.mono ?_);rintro e W2 ⟨rfl,rfl⟩);go_ret2;exact⟨rfl,HT_.o,aG.refl _ _⟩
 ·have em:s.may=0:=by unfold aX.may;rw[Xd e8]
  rw[em] at HM;by_cases hl:data.length=128
  ·by_cases hr:s.room=0
   ·have es:s.put data=(0,90,s):=by unfold aX.put;rw[Xd e8,Xd (by simp[hl]),Xo hr]
    rw[hr] at HR;rw[es,hl];clear h hd ha hn e8 em es hr hl;go_enter func72,ntmps72;go_wp2_with(first
     |(go_at_call 83;go_must(refine HM.o.mono ?_);rintro e W2 ⟨rfl,rfl⟩)
     |(go_at_call 23;go_must(refine HR.o.mono ?_);rintro e W2 ⟨rfl,rfl⟩))
    go_ret2;exact⟨rfl,HT_.o,aG.refl _ _⟩
   ·have es:s.put data=((s.t.take 2 s.next).1,(s.t.take 2 s.next).2.1,{s with t:=(s.t.take 2 s.next).2.2.1,next:=(s.t.take 2 s.next).2.2.2,fresh:=s.fresh.set (s.t.take 2 s.next).1.toNat (some data)}):=by unfold aX.put;rw[Xd e8,Xd (by simp[hl]),Xd hr]
    have ft:=Xc hr;have HT:=aa (qK w I.pb I.tb I.cb I.mb 2 s.next s.t h.pick h.fh h.ok.n2 h.ok.nl);obtain⟨b,hb,fg⟩:=s.t.zB s.next (by omega) h.ok.n2;obtain⟨k1,k2,k3,-,-⟩:=s.t.lM s.next h.ok.n2 h.ok.nl;have x2:=h.x2;obtain⟨pv,dv,ps,hc,SD⟩:=HT_.o.rows;have Hrw:=aa SD;clear SD;have Hc:=aa hc;have H:=aa h;have Hd:=aa (show Bs w w.heap.size (.slice A 128 c) data by rw[←hl];exact hd);have Ha:=aa (show Ap (BS I) (.slice A 128 c) by rw[←hl];exact ha);rw[es,hl];rw[hb] at HT⊢;have Hk:=Nv hl fg k1 k2 k3 hn.2;rw[Xt];generalize (s.t.take 2 s.next).2.1=er at*;generalize (s.t.take 2 s.next).2.2.1=t2 at*;generalize (s.t.take 2 s.next).2.2.2=n2 at*;generalize s.room=rm at*;have Hb:Af (b<4096):=by show b<4096;omega
    clear h hc hd ha hn e8 em es hr hl hb fg k1 k2 k3;go_enter func72,ntmps72;go_upto_region 9 with(first
     |(go_at_call 83;go_must(refine HM.o.mono ?_);rintro e W2 ⟨rfl,rfl⟩)
     |(go_at_call 23;go_must(refine HR.o.mono ?_);rintro e W2 ⟨rfl,rfl⟩)
     |(go_at_call 157;go_must(refine HT.o.mono ?_);rintro e W3 ⟨rfl,ht3,Wn,Nn⟩;have T3:=aa ht3;have P3:=aa Wn;have C3:=aa Nn;clear ht3 Wn Nn))
    have TL:∀x,(x=I.pb∨TS I.tb I.cb I.mb x)→BS I x:=fun x hx=>IV x hx
    have jW:¬(I.b=I.pb∨TS I.tb I.cb I.mb I.b):=by
     obtain⟨n1,n2,n3,n4,n5,n6,n7⟩:=H.o.uJ;rintro(e|e|e|e)
     ·exact n6 e
     ·exact n3 e
     ·exact n4 e
     ·exact n5 e
    have hf3:¬(I.fb=I.pb∨TS I.tb I.cb I.mb I.fb):=by
     obtain⟨n1,n2,n3,n4,n5,n6,n7⟩:=H.o.J5;rintro(e|e|e|e)
     ·exact n6 e
     ·exact n3 e
     ·exact n4 e
     ·exact n5 e
    have c3:=Hc.o.aL C3.o TL jW hf3;have C3b:=aa c3;have x5:=c3.x5;have xC:Bs W3.drew W3.drew.heap.size (.slice A 128 c) data:=⟨(Hd.o.1.aL C3.o (Qg _) (Ha.o.mono TL)).more C3.o.size,Hd.o.2⟩;have HC:=aa (pQ W3.drew W3.drew.heap.size _ data xC (Qg _) (by rw[Hk.o.1];decide));have cz:Af (∀x,BS I x→x<W3.heap.size):=fun x hx=>Qn (H.o.lt x hx) C3.o.size
    have HF:Af (∀W,Below W3.heap.size W3 W→∀g,W3.heap.size≤g→∀c',Bs W W.heap.size (sw (some (g,c'))) data→∃w',(Instr.mapUpdate 37 (.map (some I.fb)) (.int .i64 b) (.slice (some ⟨g,0,none⟩) 128 c')).run prog W= .ok () w'∧cS T w' I {s with t:=t2,next:=n2,fresh:=s.fresh.set b (some data)}∧aG (BS I) w w'):=by
     intro W hW g hg c' iV;have rf:=C3b.o.kz.1;have eo:=H.o.ok.fr;have fg:b<s.fresh.length:=by rw[eo];exact Hk.o.2.1
     have MI:=C3b.o.aL (S:=fun _=>False) (aG.aZ hW) (fun _ e=>e.elim) id id;obtain⟨w',hr,hm,uc⟩:=sS MI.jg (by rw[rf,eo];exact Hk.o.2.2.2.2.2) (b:=b) (by rw[rf];exact fg) g c';have MH:=aG.dH uc (fun x _ e=>(Qr e).symm);have Bb:∀x,x=I.fb→BS I x:=fun x e=>by unfold BS;simp[e]
     have hgS:¬BS I g:=fun e=>XV.2 hg (cz.o g e)
     have tD :=df.put (MI.kz.aL MH Bb) fg (g:=g) (c:=c') (data:=data) ⟨(iV.1.aL MH (Qg _) (jD (fun e=>hgS (Bb _ e)))).more MH.size,iV.2⟩ hgS Hk.o.1;refine⟨w',hr,?_,?_⟩
     ·have To:Yj {s with t:=t2,next:=n2,fresh:=s.fresh.set b (some data)}:=by
       have ok:=H.o.ok;refine⟨by rw[Hk.o.2.2.1];exact ok.bl,by rw[Zy,Hk.o.2.2.1];exact ok.fr,by rw[Hk.o.2.2.1];exact ok.pg,ok.dg,by rw[Hk.o.2.2.1];exact ok.rg,Hk.o.2.2.2.1,by rw[Hk.o.2.2.1];exact Hk.o.2.2.2.2.1,ok.sup,ok.kep,ok.slot,fun dt Nl=> ?_⟩;rcases Zz Nl with h1|h1
       ·exact ok.fd dt h1
       ·cases h1;exact⟨Hk.o.1,iV.2⟩
      refine⟨cR.Pf H.o Hc.o (S:=fun x=>x=I.pb∨TS I.tb I.cb I.mb x) (fun x hx=>hx) (C3.o.trans (aG.aZ hW)) uc (T3.o.on hW) (P3.o.on hW) hm tD To,⟨pv,dv,_,cR.Vi H.o Hc.o (S:=fun x=>x=I.pb∨TS I.tb I.cb I.mb x) (fun x hx=>hx) (C3.o.trans (aG.aZ hW)) uc hm tD,Hrw.o.pa,Hrw.o.da,fun i g1 k1 hi e=> ?_⟩,fun x hx=>Qn (HT_.o.lt x hx) (Qh C3.o.size (Qh hW.size MH.size)),HT_.o.no⟩;rw[lh _ _ _ _ (by rw[rf];exact fg)] at hi;split at hi
      ·injection hi with hi
       injection hi with hi
       subst hi;have h1:=HT_.o.lt _ e;have h2:=C3.o.size;omega
      ·exact Hrw.o.fa i g1 k1 hi e
     ·exact((C3.o.mono fun x _ e=>TL x e).trans (aG.aZ hW)).trans (MH.mono fun x _ e=>Bb x e)
    clear c3 xC TL jW hf3;go_region_law (first
     |(go_simp;(go_at_call 89);(with_reducible refine HC.o.mono ?_);rintro e W4 ⟨v4,rfl,o4,b4⟩;obtain⟨g4,c4,rfl,og,anc⟩:=Ph o4 Hk.o.1;have B4:Af (Below W3.heap.size W3 W4):=⟨b4.os,b4.tape,b4.output,b4.size,b4.block⟩;have y5:W4.cell? ⟨I.b,5,none⟩=some (.map (some I.fb)):=(B4.o.cell (p:=⟨I.b,5,none⟩) (cz.o _ (.inl rfl))).trans x5;obtain⟨W5,iq,SV,hC5⟩:=HF.o W4 B4.o g4 og c4 ⟨by have:=Sl.bU o4;rw[Hk.o.1] at this;rw[Hk.o.1];exact this,Hd.o.2⟩;have R5:=aa SV;have K5:=aa hC5;clear SV hC5 o4 b4))
    all_goals
     go_wp2_with fail;go_ret2;exact⟨rfl,R5.o,K5.o⟩
  ·have es:s.put data=(0,2,s):=by unfold aX.put;rw[Xd e8,Xo hl]
   rw[es];have rf:=Xc (by omega);clear h hd ha hn e8 em es hl;go_enter func72,ntmps72;go_wp2_with(go_at_call 83;go_must(refine HM.o.mono ?_);rintro e W2 ⟨rfl,rfl⟩);go_ret2;exact⟨rfl,HT_.o,aG.refl _ _⟩
theorem cS.Oz {T:Nat→Prop} {w:Wo} {I:bF} {s:aX} (h:cS T w I s) (hc:aG (TS I.tb I.cb I.mb) w w1) (ht:bf w1 I.tb I.cb I.mb t) (hl:t.len=s.t.len):cS T w1 I {s with t:=t}:=by
 obtain⟨pv,dv,ps,c,hr⟩:=h.rows;obtain⟨n1,n2,n3,n4,n5,n6,n7⟩:=h.at_.uJ;obtain⟨f1,f2,f3,f4,f5,f6,f7⟩:=h.at_.J5;have c1:=c.aL hc (fun x hx=>OS x hx) (fun e=>e.elim n3 (fun e=>e.elim n4 n5)) (fun e=>e.elim f3 (fun e=>e.elim f4 f5));exact⟨h.at_.Oz hc ht hl,⟨pv,dv,ps,⟨c1.own,c1.ag,c1.ed,c1.au,c1.fT,c1.jg,c1.kz⟩,hr⟩,fun x hx=>Qn (h.lt x hx) hc.size,h.no⟩
theorem cS.cut {T:Nat→Prop} {w:Wo} {I:bF} {s:aX} (hT:cS T w I s) (b:Nat) (hb:b<s.t.len) (ty:TypeId):
  ∃w',(Builtin.delete_ #[37,3] ty #[.map (some I.fb),.int .i64 b]).run prog w= .ok (.tuple #[]) w'∧cS T w' I {s with fresh:=s.fresh.set b none}∧aG (fun x=>x=I.fb) w w' :=by
 have h:=hT.at_;obtain⟨f1,f2,f3,f4,f5,f6,f7⟩:=h.J5;obtain⟨pv,dv,ps,c,SD⟩:=hT.rows;have hn:=h.n0;obtain⟨w',hr,hm,hg⟩:=Gu c.jg b (by omega) ty;have jY:=aG.dH hg (fun x _ e=>(Qr e).symm);have Bb:∀x,x=I.fb→BS I x:=fun x e=>by unfold BS;simp[e]
 have ok:=h.ok;have hf:=df.cut (c.kz.aL jY Bb) (b:=b) (by rw[ok.fr];exact hb);have cc:dB w' I {s with fresh:=s.fresh.set b none} pv dv (ps.set b none):=⟨c.own.aL jY (Xm f7),Sl.more (Sl.aL c.ag jY (Qg _) (c.ed.mono Bb)) jY.size,c.ed,Sl.more (Sl.aL c.au jY (Qg _) (c.fT.mono Bb)) jY.size,c.fT,hm,hf⟩;have ec:Yj {s with fresh:=s.fresh.set b none}:=by
  refine⟨ok.bl,by rw[Zy];exact ok.fr,ok.pg,ok.dg,ok.rg,ok.n2,ok.nl,ok.sup,ok.kep,ok.slot,fun dt Nl=> ?_⟩;rcases Zz Nl with h1|h1
  ·exact ok.fd dt h1
  ·cases h1
 refine⟨w',hr,⟨⟨⟨pv,dv,_,cc⟩,
  ⟨h.dM.own.aL jY (Xm f1),h.dM.eP.aL jY (Xm f2),h.dM.ne,h.dM.size,h.dM.byte,h.dM.n0,h.dM.n1⟩,h.fh.aL jY (Xm f3) (Xm f4) (Xm f5),h.pick.aL jY (Xm f6),h.mf,ec⟩,⟨pv,dv,_,cc,SD.pa,SD.da,fun i g1 k1 hi e=> ?_⟩,fun x hx=>Qn (hT.lt x hx) jY.size,hT.no⟩,jY⟩
 rw[lh _ _ _ _ (by rw[c.kz.1,ok.fr];exact hb)] at hi;split at hi
 ·cases hi
 ·exact SD.fa i g1 k1 hi e
theorem Aj (T:Nat→Prop) (w:Wo) (I:bF) (s:aX) (hT:cS T w I s) (b:Nat) (e8:s.broken=false):
  Calls prog 226 #[.pointer (some ⟨I.b,0,none⟩),.int .i64 b,.func (.func 182) #[.pointer (some ⟨I.tb,0,none⟩)] #[]] w fun e w' =>e= .returned (.int .i64 (s.count b false).1)∧cS T w' I (s.count b false).2∧aG (BS I) w w' :=by
 have h:=hT.at_;have H:=aa hT;clear hT;have HB:=aa (dI w I s h);obtain⟨pv,dv,x3,x4,hp,hd,dh,oR⟩:=h.abP;obtain⟨Ap,cp,rfl,-,-⟩:=hp.form;obtain⟨Ad,cd,rfl,-,-⟩:=hd.form;have NR:=aa (oF w _ s.ag w.heap.size hp (by omega) (b:Int));have Tg:=aa (oF w _ s.au w.heap.size hd (by omega) (b:Int));have x1:=h.x1;have HG:=aa (qH w I.tb I.cb I.mb s.t h.fh b);rw[Xo (by omega),Xt] at HG;have i0:∀m:Int,(m≤b)=(m≤b):=fun _=>rfl
 by_cases c1:b<2
 ·have es:s.count b false=(2,s):=by unfold aX.count;rw[e8,Xd (by decide),Xo (.inl c1)]
  rw[es];have sq:(b:Int)<2:=by omega
  clear h hp hd es c1 i0;go_enter func226,ntmps226;go_wp2_with fail;go_ret;exact⟨rfl,H.o,aG.refl _ _⟩
 ·have sq:¬(b:Int)<2:=by omega
  by_cases c2:s.t.len≤b
  ·have es:s.count b false=(2,s):=by unfold aX.count;rw[e8,Xd (by decide),Xo (.inr (.inl c2))]
   rw[es];have jW:(s.t.len:Int)≤b:=by omega
   generalize s.t.len=n at*;clear h hp hd es c1 c2 i0;go_enter func226,ntmps226;go_wp2_with(go_at_call 60;go_must(refine HB.o.mono ?_);rintro e W2 ⟨rfl,rfl⟩);go_ret;exact⟨rfl,H.o,aG.refl _ _⟩
  ·have jW:¬(s.t.len:Int)≤b:=by omega
   have fg:Af (b<s.t.len):=by show b<_;omega
   cases c3:s.ag.contains (b:Int) with
   |true=>
    have es:s.count b false=(2,s):=by unfold aX.count;rw[e8,Xd (by decide),Xo (.inr (.inr (.inl c3)))]
    rw[es];rw[c3] at NR;generalize s.t.len=n at*;clear h hp hd es c1 c2 i0 c3;go_enter func226,ntmps226;go_wp2_with(first
     |(go_at_call 60;go_must(refine HB.o.mono ?_);rintro e W2 ⟨rfl,rfl⟩)
     |(go_at_call 124;go_must(refine NR.o.mono ?_);rintro e W2 ⟨rfl,rfl⟩))
    go_ret;exact⟨rfl,H.o,aG.refl _ _⟩
   |false=>
    rw[c3] at NR;cases c4:s.au.contains (b:Int) with
    |true=>
     have es:s.count b false=(2,s):=by unfold aX.count;rw[e8,Xd (by decide),Xo (.inr (.inr (.inr c4)))]
     rw[es];rw[c4] at Tg;generalize s.t.len=n at*;clear h hp hd es c1 c2 i0 c3 c4;go_enter func226,ntmps226;go_wp2_with(first
      |(go_at_call 60;go_must(refine HB.o.mono ?_);rintro e W2 ⟨rfl,rfl⟩)
      |(go_at_call 124;go_must(first|(refine NR.o.mono ?_)|(refine Tg.o.mono ?_));rintro e W2 ⟨rfl,rfl⟩))
     go_ret;exact⟨rfl,H.o,aG.refl _ _⟩
    |false=>
     rw[c4] at Tg;have Z1:¬(b<2∨s.len≤b∨s.ag.contains (b:Int)∨s.au.contains (b:Int)):=by
      rintro(e|e|e|e)
      ·exact c1 e
      ·exact c2 e
      ·rw[c3] at e;cases e
      ·rw[c4] at e;cases e
     by_cases c6:s.t.get b=0
     ·have es:s.count b false=(82,s):=by unfold aX.count;rw[e8,Xd (by decide),Xd Z1,Xo c6]
      rw[es];rw[c6] at HG;generalize s.t.len=n at*;clear h hp hd es c1 c2 i0 c3 c4 Z1 c6;go_enter func226,ntmps226;go_wp2_with(first
       |(go_at_call 60;go_must(refine HB.o.mono ?_);rintro e W2 ⟨rfl,rfl⟩)
       |(go_at_call 95;go_must(refine HG.o.mono ?_);rintro e W2 ⟨rfl,rfl⟩)
       |(go_at_call 124;go_must(first|(refine NR.o.mono ?_)|(refine Tg.o.mono ?_));rintro e W2 ⟨rfl,rfl⟩))
      go_ret;exact⟨rfl,H.o,aG.refl _ _⟩
     ·have es:s.count b false=((s.t.down b).1,{s with t:=(s.t.down b).2,fresh:=if(s.t.down b).2.get b=0 then s.fresh.set b none else s.fresh}):=by unfold aX.count;rw[e8,Xd (by decide),Xd Z1,Xd c6];rfl
      rw[es];have AV:=Xc c6;have HD:=aa (sa w I.tb I.cb I.mb s.t h.fh b);have Hl:=aa (s.t.vh b);generalize s.t.get b=gb at*;obtain⟨r,hr⟩:=eX (s.t.down b);rw[←hr] at HD Hl⊢;obtain⟨r1,t2⟩:=r;dsimp only at HD Hl⊢;obtain⟨s2,Ey⟩:=eX ({s with t:=t2,fresh:=if t2.get b=0 then s.fresh.set b none else s.fresh});rw[←Ey];have EH:=aa Ey;clear h hp hd es c1 c2 i0 c3 c4 Z1 c6 hr Ey;go_enter func226,ntmps226;go_upto_region 6 with(first
       |(go_at_call 60;go_must(refine HB.o.mono ?_);rintro e W2 ⟨rfl,rfl⟩)
       |(go_at_call 95;go_must(refine HG.o.mono ?_);rintro e W2 ⟨rfl,rfl⟩)
       |(go_at_call 182;go_must(refine HD.o.mono ?_);rintro e W3 ⟨rfl,t3,c3⟩;have T3:=aa t3;have C3:=aa c3;clear t3 c3)
       |(go_at_call 124;go_must(first|(refine NR.o.mono ?_)|(refine Tg.o.mono ?_));rintro e W2 ⟨rfl,rfl⟩))
      have H3:=aa (H.o.Oz C3.o T3.o Hl.o);have y1:=H3.o.at_.x1;have y5:=H3.o.at_.x5;have wM:=aa (qH W3 I.tb I.cb I.mb t2 T3.o b);rw[Xo (by omega),Xt] at wM;by_cases jY:t2.get b=0
      ·rw[jY] at wM;have Hf:Af (s2={s with t:=t2,fresh:=s.fresh.set b none}):=by show s2=_;rw[EH.o,Xo jY]
       obtain⟨W4,iq,h4,c4⟩:=H3.o.cut b (by show b<t2.len;rw[Hl.o];exact fg.o) 0;have H4:=aa h4;have C4:=aa c4;have Bu:=aa iq;clear h4 c4 jY HB NR Tg HG HD iq;go_wp2_with(first
        |(go_at_call 95;go_must(refine wM.o.mono ?_);rintro e W2 ⟨rfl,rfl⟩)
        |(refine wl_del Bu.o rfl rfl ?_))
       go_ret;rw[Hf.o];exact⟨rfl,H4.o,(C3.o.mono fun x _ e=>OS x e).trans (C4.o.mono fun x _ e=>by unfold BS;simp[e])⟩
      ·have qa:=Xc jY;have Hf:Af (s2={s with t:=t2}):=by show s2=_;rw[EH.o,Xd jY]
       generalize t2.get b=g2 at qa wM;clear jY HB NR Tg HG HD;go_wp2_with(first
        |(go_at_call 95;go_must(refine wM.o.mono ?_);rintro e W2 ⟨rfl,rfl⟩))
       go_ret;rw[Hf.o];exact⟨rfl,H3.o,(C3.o.mono fun x _ e=>OS x e)⟩
theorem GM (T:Nat→Prop) (w:Wo) (I:bF) (s:aX) (hT:cS T w I s) (b:Nat) (e8:s.broken=false):
  Calls prog 154 #[.pointer (some ⟨I.b,0,none⟩),.int .i64 b] w fun e w' =>e= .returned (.int .i64 (s.count b false).1)∧cS T w' I (s.count b false).2∧aG (BS I) w w' :=by
 have h:=hT.at_;have HM:=aa (nJ w I s h);have em:s.may=0:=by unfold aX.may;rw[e8];rfl
 rw[em] at HM;have x1:=h.x1;have HC:=aa (Aj T w I s hT b e8);clear h hT e8 em;go_enter func154,ntmps154;go_wp2_with(first
  |(go_at_call 83;go_must(refine HM.o.mono ?_);rintro e W2 ⟨rfl,rfl⟩)
  |(go_at_call 226;go_must(refine HC.o.mono ?_);rintro e W3 ⟨rfl,h3,c3⟩;have H3:=aa h3;have C3:=aa c3;clear h3 c3))
 go_ret;exact⟨rfl,H3.o,C3.o⟩
theorem cS.cM {T:Nat→Prop} {w:Wo} {I:bF} {s:aX} (h:cS T w I s) {i:Nat} (hi:i<8) {b:Int} (hb:bX b):
  cS T (w.setCell ⟨I.b,8+i,none⟩ (.int .u32 b)) I {s with eO:={s.eO with roots:=s.eO.roots.set i b}}:=by
 obtain⟨n1,n2,n3,n4,n5,n6,n7⟩:=h.at_.uJ;have hc:=kh w I.b (8+i) (.int .u32 b);obtain⟨pv,dv,ps,c,hr⟩:=h.rows;have hS:∀x,x=I.b→BS I x:=fun x e=> .inl e
 refine⟨h.at_.cM hi hb,⟨pv,dv,ps,⟨?_,Sl.more (Sl.aL c.ag hc (Qg _) (c.ed.mono hS)) hc.size,c.ed,Sl.more (Sl.aL c.au hc (Qg _) (c.fT.mono hS)) hc.size,c.fT,c.jg.aL hc (Xm n7),c.kz.aL hc hS⟩,hr⟩,fun x hx=>Qn (h.lt x hx) hc.size,h.no⟩;have:=c.own.set (8+i) (.int .u32 b);rw[vZ h.at_.ok.sup i b hi] at this;exact this
theorem w9 (T:Nat→Prop) (w:Wo) (I:bF) (s:aX) (hT:cS T w I s) (e8:s.broken=false) (i:Nat) (h2:2≤i) (hi:i<8) (b:Int) (hb:b=0∨2≤b∧b<s.t.len):
  Calls prog 74 #[.pointer (some ⟨I.b,0,none⟩),.int .i64 i,.int .i64 b] w fun e w' =>e= .returned (.int .i64 0)∧cS T w' I (s.cM i b).2∧aG (BS I) w w' :=by
 have h:=hT.at_;have HM:=aa (nJ w I s h);have em:s.may=0:=by unfold aX.may;rw[e8];rfl
 rw[em] at HM;have HB:=aa (dI w I s h);have hn:=h.n0;have TK:bX b:=by unfold bX;omega
 have es:(s.cM i b).2={s with eO:={s.eO with roots:=s.eO.roots.set i b}}:=by unfold aX.cM;rw[e8,Xd (by decide),Xd (by have:s.len=s.t.len:=rfl;omega)]
 have HS:=aa (hT.cM hi TK);have Hes:=aa es;have x:=h.root hi;obtain⟨pv,dv,ps,c⟩:=h.cells;have xf:=c.own.free (8+i);have hw:IntKind.u32.wrap b=b:=by unfold IntKind.wrap;simp[IntKind.signed,IntKind.bits];unfold bX at TK;omega
 have i0:¬(i:Int)<2:=by omega
 have i1:(i:Int)<8:=by omega
 have i2:(0:Int)≤i:=by omega
 generalize s.root i=r at*;generalize s.t.len=n at*;rcases hb with rfl|⟨yZ,sq⟩
 ·clear h hT c es em hn h2 hi TK hw;go_enter func74,ntmps74;go_wp2_with(first
   |(go_at_call 83;go_must(refine HM.o.mono ?_);rintro e W2 ⟨rfl,rfl⟩)
   |(go_at_call 60;go_must(refine HB.o.mono ?_);rintro e W2 ⟨rfl,rfl⟩))
  go_ret;refine⟨rfl,?_,kh _ _ _ _ |>.mono fun x _ e=> .inl e⟩;rw[Hes.o];exact HS.o
 ·have b0:(b==0)=false:=Xc (by omega);have b1:¬b<2:=by omega
  clear h hT c es em hn h2 hi TK;go_enter func74,ntmps74;go_wp2_with(first
   |(go_at_call 83;go_must(refine HM.o.mono ?_);rintro e W2 ⟨rfl,rfl⟩)
   |(go_at_call 60;go_must(refine HB.o.mono ?_);rintro e W2 ⟨rfl,rfl⟩))
  go_ret;refine⟨rfl,?_,kh _ _ _ _ |>.mono fun x _ e=> .inl e⟩;rw[Hes.o];exact HS.o
end
section
open Go.RowKit
attribute [local go_sem] Oper.semAt_some
variable {B : Nat} {W : Wo} {st : Int → Option ay}
structure MR where
 d:Int
 x:Int
 a:Option Addr
 n:Nat
 c:Nat
def shY (y:MR):Va:= .agg #[.int .u8 y.d,.int .u32 y.x,.slice y.a y.n y.c]
def UO (o:Option Nat):DataW Unit:=match o with
 |none=> .nil
 |some k=> .lit (.int .u64 k)
def UP (a:Option Addr):DataW Unit:=match a with
 |none=> .nil
 |some p=> .agg [.lit (.int .u64 p.block),.lit (.int .u64 p.off),UO p.spot]
def J9 (y:MR):DataW Unit:= .agg [.lit (.int .u8 y.d),.lit (.int .u32 y.x),UP y.a,.lit (.int .u64 y.n),.lit (.int .u64 y.c)]
def RY (v:Va):Option (DataW Unit×List MemPlace):=match v with
 | .agg cs=>match cs.toList with
  |[.int .u8 d,.int .u32 x,.slice a n c]=>some (J9 ⟨d,x,a,n,c⟩,[])
  |_=>none
 |_=>none
theorem Sd {o o' :Option Nat} (h:UO o=UO o'):o=o' :=by
 unfold UO at h;cases o<;>cases o' <;>simp at h
 ·rfl
 ·exact XF some (by omega)
theorem Se {a a' :Option Addr} (h:UP a=UP a'):a=a' :=by
 unfold UP at h;cases a with
 |none=>cases a' with
  |none=>rfl
  |some q=>simp at h
 |some p=>cases a' with
  |none=>simp at h
  |some q=>
   simp at h;obtain⟨h1,h2,h3⟩:=h;have h4:=Sd h3;cases p;cases q;simp_all;omega
theorem Sc (y y' :MR) (h:J9 y=J9 y'):y=y' :=by
 unfold J9 at h;simp at h;obtain⟨h1,h2,h3,h4,h5⟩:=h;have h6:=Se h3;cases y;cases y';simp_all;omega
theorem acB (v:Va) (z:DataW Unit×List MemPlace) (h:RY v=some z):∃y,v=shY y∧z=(J9 y,[]):=by
 unfold RY at h;split at h
 ·rename_i cs
  split at h
  ·rename_i d x a n c iH
   cases h
   refine⟨⟨d,x,a,n,c⟩,?_,rfl⟩;unfold shY;congr 1
   exact Array.ext' iH
  ·cases h
 ·cases h
def Ub:MK Int MR where
 mt:=314
 kt:=3
 vt:=92
 xz:=underlying314
 keyed:=Maps.int_keyed underlying3
 kv:= .int .i64
 kl:= .int .i64
 qY:=fun x=>(Lit.int .i64 x).wf=true
 ir:=fun x h=>Maps.keyOf_int_mk underlying3 h
 Bn:=fun x y h=>by simpa using h
 sB:=fun v l h=>by
  obtain⟨y,e1,e2,e3⟩:=Maps.keyOf_int_inv underlying3 h;exact⟨y,e3,e1⟩
 vv:=shY
 Ix:=J9
 R:=RY
 MZ:=fun _=>rfl
 Bm:=acB
 zo:=Sc
 zero:=⟨0,0,none,0,0⟩
 hz:=fun w=>by kernel_rfl
def MQ (B:Nat) (W:Wo) (f:Int→Option MR) (st:Int→Option ay):Prop:=
 ∀x,(f x=none∧st x=none)∨∃y s,f x=some y∧st x=some s∧y.d=s.depth∧y.x=s.next∧Es W B (.slice y.a y.n y.c) s.es∧pC s
theorem MQ.below {W' :Wo} {f:Int→Option MR} (h:MQ B W f st) (hb:Below B W W'):MQ B W' f st:=fun x=>by
 rcases h x with h1|⟨y,s,h1,h2,h3,h4,h5,h6⟩
 ·exact Or.inl h1
 ·exact Or.inr ⟨y,s,h1,h2,h3,h4,h5.below hb,h6⟩
theorem MQ.put {f:Int→Option MR} (h:MQ B W f st) (b:Int) (y:MR) (s:ay) (h1:y.d=s.depth) (h2:y.x=s.next) (h3:Es W B (.slice y.a y.n y.c) s.es) (h4:pC s):MQ B W (eM f b y) (eM st b s):=fun x=>by
 unfold eM;by_cases hx:x=b
 ·rw[Xo hx,Xo hx]
  exact Or.inr ⟨y,s,rfl,rfl,h1,h2,h3,h4⟩
 ·rw[Xd hx,Xd hx]
  exact h x
theorem MQ.cut {f:Int→Option MR} (h:MQ B W f st) (b:Int):MQ B W (mX f b) (mX st b):=fun x=>by
 unfold mX;by_cases hx:x=b
 ·rw[Xo hx,Xo hx]
  exact Or.inl ⟨rfl,rfl⟩
 ·rw[Xd hx,Xd hx]
  exact h x
end
end Go.Proofs.YthgdhacopamklaaGreat

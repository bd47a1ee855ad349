/- What HashNone asks, part 33 of 41: parts of the walks and laws, each true as it stands. -/
import Derived.Test.YthgdhacopamklaaGreatTBE
import Derived.Test.YthgdhacopamklaaGreatTBF
set_option maxHeartbeats 16000000
set_option maxRecDepth 100000
set_option linter.unusedVariables false
set_option linter.unusedSimpArgs false
namespace Go.Proofs.YthgdhacopamklaaGreat
open Go.Proofs.Tryz
section
open Go.RowKit
attribute [local go_sem] Oper.semAt_some
variable {c : ak} {B b base e g k n sz tb : Nat} {ao gone : List ak} {W' w' : Wo} {tZ v : Va} {at_ l : List Int} {xs : List Va}
def pE:List Va:=[.int .u8 0,.slice none 0 0,.slice none 0 0,.slice none 0 0]
theorem Pn:(prog.info? 152).map (·.zero)=some (some (.agg (List.replicate 768 (Value.int .i64 0)++pE).toArray)):=by kernel_rfl
theorem G9 (W:Wo) (cs:List Va) (h:cs.length=768):(Instr.build 152 #[(0,.agg cs.toArray)]).run prog W= .ok (.agg (cs++pE).toArray) W:=by
 refine run_build W _ _ _ ?_;unfold Program.built;cases hq:prog.info? 152 with
 |none=>have:=Pn;rw[hq] at this;cases this
 |some it=>
  have hz:it.zero=some (.agg (List.replicate 768 (Value.int .i64 0)++pE).toArray):=by have:=Pn;rw[hq] at this;simpa using this
  obtain⟨F,hF⟩:∃F,prog.underlying 152=some (.struct F):=⟨_,underlying152⟩;have hm:∃pl,(F.toList.mapM fun f=>(prog.info? f.type).map fun i=>(f.offset,i.size))=some pl∧pl.toArray[0]? =some (0,768):=by
   have TO:=underlying152;rw[hF] at TO;injection TO with TO
   injection TO with TO
   subst TO;exact⟨[(0,768),(768,2),(770,1),(771,1)],by kernel_rfl,rfl⟩
  obtain⟨pl,hm,h0⟩:=hm;rw[hF];simp only[hz,hm];show Instr.fill _ _ [(0,.agg cs.toArray)]=_;unfold Instr.fill;simp only[h0];have cz:(Value.agg cs.toArray).cells.size=768:=by show cs.toArray.size=768;simpa using h
  have Uz:(Value.agg (List.replicate 768 (Value.int .i64 0)++pE).toArray).cells.size=772:=by show(List.replicate 768 (Value.int .i64 0)++pE).toArray.size=772;simp[pE]
  rw[Xd (by rw[cz,Uz];decide)];show some _=some _;congr 1
  obtain⟨Zc,hZc⟩:=eX ((List.replicate 768 (Value.int .i64 0)++pE).toArray);have h1:=vf cs 0 Zc (by rw[hZc,h];simp);rw[Zq,QZ,h,hZc] at h1;apply Array.ext';refine Eq.trans ?_ (h1.trans ?_)
  ·rw[←Array.foldl_toList,Array.toList_zipIdx];rfl
  ·rw[List.drop_append_of_le_length (by simp)];simp
section
variable {P : Program} {ops : Array Oper} {w : Wo} {Q : Exit → Act → Wo → Prop} {a : Act} {rest : List Oper} {dst : Option Tmp} {x : Operand} {t ty : TypeId} {pos : String} {after : Array Edge} {j : Nat}
theorem wl_build1 (v r:Va) (hx:a.eval x=v) (h:(Instr.build t #[(j,v)]).run P w= .ok r w) (hk:wpList P ops Q rest (a.put dst r) w):
  wpList P ops Q (⟨dst,.build t #[(j,x)],ty,pos,after,none⟩::rest) a w:=
 wpList_plain rfl fun K hK=>by
  unfold Oper.wp;rw[←hx] at h;simp[execOp,h,Result.andThen];exact hK _ _ hk
end
def eA (cells:List aM) (i:Nat) (c:ak) (n:Nat):List aM:=cells.mapIdx fun m x=>if m<n∧bY c.ax c.depth m=true then⟨c.blocks.getD 0 0,c.depth,i+1⟩ else x
theorem Mg (cells:List aM) (i:Nat) (c:ak) (n:Nat):(eA cells i c n).length=cells.length:=by simp[eA]
theorem GU (cells:List aM) (i:Nat) (c:ak):eA cells i c 0=cells:=by
 refine List.ext_getElem? fun m=> ?_
 unfold eA;rw[Zp];cases cells[m]? <;>simp
theorem Mh {cells:List aM} (h:cells.length=256) (i:Nat) (c:ak):eA cells i c 256=fE cells i c:=by
 refine List.ext_getElem? fun m=> ?_
 unfold eA fE;rw[Zp,Zp];by_cases hm:m<256
 ·cases cells[m]? <;>simp[hm]
 ·rw[QQ (by omega)];rfl
theorem GV {cells:List aM} {i:Nat} {x:aM} (hx:cells[n]? =some x):(eA cells i c n)[n]? =some x∧eA cells i c (n+1)=if bY c.ax c.depth n=true then(eA cells i c n).set n ⟨c.blocks.getD 0 0,c.depth,i+1⟩ else eA cells i c n:=by
 have hn:=(Ql.1 hx).1;constructor
 ·unfold eA;rw[Zp,hx];simp
 ·refine List.ext_getElem? fun m=> ?_
  by_cases hm:m=n
  ·subst hm;by_cases hi:bY c.ax c.depth m=true
   ·rw[Xo hi,List.getElem?_set_self (by rw[Mg];exact hn)];unfold eA;rw[Zp,hx];simp[hi]
   ·rw[Xd hi];unfold eA;rw[Zp,Zp];simp[hi]
  ·have h1:(if bY c.ax c.depth n=true then(eA cells i c n).set n ⟨c.blocks.getD 0 0,c.depth,i+1⟩ else eA cells i c n)[m]? =(eA cells i c n)[m]? :=by
    split
    ·rw[List.getElem?_set_ne (Xm hm)]
    ·rfl
   rw[h1];unfold eA;rw[Zp,Zp];have h2:(m<n+1)↔(m<n):=by omega
   simp only[h2]
theorem jt (cells:List aM):∀(l:List ak) (i:Nat),(foldI fE i l cells).length=cells.length:=by
 intro l;induction l generalizing cells with
 |nil=>intro i;rfl
 |cons c r ih=>
  intro i;show(foldI fE (i+1) r (fE cells i c)).length=_;rw[ih];simp[fE]
theorem GS {cells:List aM} (h:ao[k]? =some c):cJ cells (ao.take (k+1))=fE (cJ cells (ao.take k)) k c:=lW _ _ _ _ h _
structure iQ (w:Wo) (db tb pb:Nat) (dc:List Va) (stay:List Int) (cells:List aM) (dep:Nat) (sv pv gv:Va) (gl:List Int) (W:Wo):Prop where
 own:aq W pb 152 (di cells dep sv pv gv)
 dir:aq W db 133 dc
 st:∃A c,aq W tb 34 [.slice A stay.length c]∧Ns W (tb+1) .i64 (.slice A stay.length c) stay∧Ap (fun x=>x≤pb) (.slice A stay.length c)
 gn:aB W w.heap.size 3 .i64 gv gl
 low:Below w.heap.size w W
 lb:w.heap.size≤db∧db<pb∧pb<tb∧tb<W.heap.size
 ne:∀b,gv.ownBlock=some b→b≠db∧b≠pb∧tb<b
theorem iQ.on {w:Wo} {db pb:Nat} {dc:List Va} {stay:List Int} {cells:List aM} {dep:Nat} {sv pv gv:Va} {gl:List Int} {W:Wo} (h:iQ w db tb pb dc stay cells dep sv pv gv gl W) (hb:Below W.heap.size W W'):iQ w db tb pb dc stay cells dep sv pv gv gl W' :=
 ⟨h.own.on hb,h.dir.on hb,(by obtain⟨A,c,h1,h2,h3⟩:=h.st;exact⟨A,c,h1.on hb,Ns.below h2 (hb.mono h.lb.2.2.2),h3⟩),aB.on h.gn hb,h.low.trans (hb.mono h.low.size),⟨h.lb.1,h.lb.2.1,h.lb.2.2.1,Qn h.lb.2.2.2 hb.size⟩,h.ne⟩
theorem iQ.stay {w:Wo} {db pb:Nat} {dc:List Va} {stay:List Int} {cells:List aM} {dep:Nat} {sv pv gv:Va} {gl:List Int} {W:Wo} (h:iQ w db tb pb dc stay cells dep sv pv gv gl W) (hb:tb+1≤base):sH base W tb stay:=by
 obtain⟨A,c,h1,h2,-⟩:=h.st;exact⟨hb,A,c,h1,h2.more hb⟩
theorem iQ.set {w:Wo} {db pb:Nat} {dc:List Va} {stay:List Int} {cells uS :List aM} {dep Of :Nat} {sv pv gv pv' TQ :Va} {gl:List Int} {W:Wo} (h:iQ w db tb pb dc stay cells dep sv pv gv gl W) (j:Nat) (u:Va) (he:(di cells dep sv pv gv).set j u=di uS Of tZ pv' TQ) (hg:TQ =gv):
  iQ w db tb pb dc stay uS Of tZ pv' TQ gl (W.setCell ⟨pb,j,none⟩ u):=by
 subst hg;have o:=h.own.set j u;rw[he] at o;obtain⟨A,c,h1,h2,h3⟩:=h.st;refine⟨o,h.dir.az (p:=⟨pb,j,none⟩) (XP h.lb.2.1) u,⟨A,c,h1.az (p:=⟨pb,j,none⟩) (XO h.lb.2.2.1) u,?_,h3⟩,aB.aT h.gn h.own (by decide) j u,h.low.setCell (p:=⟨pb,j,none⟩) (Qh h.lb.1 (QX h.lb.2.1)) u,⟨h.lb.1,h.lb.2.1,h.lb.2.2.1,by rw[World.size_setCell];exact h.lb.2.2.2⟩,h.ne⟩;refine Sl.aL h2 (S:=fun x=>x=pb) ((aG.refl (fun x=>x=pb) W).setCell (p:=⟨pb,j,none⟩) (fun _=>rfl) u) h.lb.2.2.2 (h3.mono fun x hx=>Xg hx)
theorem iQ.app {w:Wo} {db pb:Nat} {dc:List Va} {stay:List Int} {cells:List aM} {dep:Nat} {sv pv gv:Va} {gl:List Int} {W:Wo} (h:iQ w db tb pb dc stay cells dep sv pv gv gl W) (hl:cells.length=256) (vy:Va) (ys:List Int) (hy:Ns W B .i64 vy ys) (hn:gl.length+ys.length≤1000000) (ty:TypeId):
  ∃v' W',(Builtin.append_ #[34,34] ty #[gv,vy]).run prog W= .ok v' W'∧(∃A n c,v' = .slice A n c)∧W'.cell? ⟨pb,771,none⟩=some gv∧W'.frozen? ⟨pb,771,none⟩=false∧iQ w db tb pb dc stay cells dep sv pv v' (gl++ys) (W'.setCell ⟨pb,771,none⟩ v')∧W.grownBy W' gv.ownBlock∧(v'.ownBlock=gv.ownBlock∨v'.ownBlock=some W.heap.size):=by
 obtain⟨v',W',r,o,g,e⟩:=cy (P:=prog) W w.heap.size 34 ty 3 (.int .i64 0) 1 8 underlying34 iE rfl (by decide) gv gl.length _ h.gn vy ys.length _ hy (dW .i64 ys) (by unfold maxLen;omega) (by omega) h.low.size;have o2:aB W' w.heap.size 3 .i64 v' (gl++ys):=by unfold aB;rw[Qo,QL];exact o
 have bT:=h.ne;have n1:some pb≠gv.ownBlock:=fun e=>(bT pb e.symm).2.1 rfl
 have n2:some db≠gv.ownBlock:=fun e=>(bT db e.symm).1 rfl
 have n3:some tb≠gv.ownBlock:=fun e=>absurd (bT tb e.symm).2.2 (XI _)
 have own:=h.own.grown g n1;obtain⟨A,c,s1,s2,s3⟩:=h.st;have b1:=(Xj (tb+1) W).grown g (by have:=h.lb.2.2.2;omega) (fun j e=>(bT j e).2.2);refine⟨v',W',r,o2.bu,own.cell (bq hl 3),own.free 771,?_,g,e⟩;have hb:∀b,v'.ownBlock=some b→b≠db∧b≠pb∧tb<b:=fun b hb=>by
  rcases e with e|e
  ·exact bT b (e▸hb)
  ·rw[e] at hb;have hb:=Qr hb;have:=h.lb;exact⟨by omega,by omega,by omega⟩
 have k:iQ w db tb pb dc stay cells dep sv pv v' (gl++ys) (W'.setCell ⟨pb,771,none⟩ v'):=by have o3:=own.set 771 v';rw[show(771:Nat)=768+3 from rfl,fC hl 3 v'] at o3;refine⟨o3,(h.dir.grown g n2).az (p:=⟨pb,771,none⟩) (XP h.lb.2.1) v',⟨A,c,(s1.grown g n3).az (p:=⟨pb,771,none⟩) (XO h.lb.2.2.1) v',?_,s3⟩,aB.aT o2 own (by decide) 771 v',((h.low.grown g h.low.size (fun j e=>Qh h.lb.1 (QX (Nat.lt_trans h.lb.2.1 (Nat.lt_trans h.lb.2.2.1 (bT j e).2.2)))))).setCell (p:=⟨pb,771,none⟩) (Qh h.lb.1 (QX h.lb.2.1)) v',⟨h.lb.1,h.lb.2.1,h.lb.2.2.1,by rw[World.size_setCell];exact Qn h.lb.2.2.2 g.size⟩,hb⟩;exact Sl.aL (Ns.below s2 b1) (S:=fun x=>x=pb) ((aG.refl (fun x=>x=pb) W').setCell (p:=⟨pb,771,none⟩) (fun _=>rfl) v') (Qn h.lb.2.2.2 g.size) (s3.mono fun x hx=>Xg hx)
 exact k
theorem Gt (h:gone[k]? =some c):iY (gone.take (k+1)) ao=iY (gone.take k) ao++c.blocks.filter (j9 (dD ao)):=by
 unfold iY;rw[aA gone k c h,QP,List.flatMap_singleton];rfl
theorem zF (ag:List Int):∀(l:List Int) (i:Nat) (g:List Int),(foldI (dA ag) i l g).length≤g.length+l.length
 |[],_,_=>Qg _
 |x::r,i,g=>by
  have h:=zF ag r (i+1) (dA ag g i x);have h2:(dA ag g i x).length≤g.length+1:=by
   unfold dA;split
   ·simp
   ·exact Q0 _
  show(foldI (dA ag) (i+1) r (dA ag g i x)).length≤_;rw[QF];omega
theorem rW (h:∀c∈gone,ru c):(iY gone ao).length≤gone.length*4096:=by
 unfold iY;induction gone with
 |nil=>simp
 |cons c r ih=>
  rw[QH,Qo,QF,Nat.add_mul,Nat.one_mul];have h1:=ih (fun x hx=>h x (Qs _ hx));have h2:=Qh (List.length_filter_le (fun x=> !(dD ao).contains x) c.blocks) (h c Qm).y7;omega
theorem wl_index1 {P:Program} {ops:Array Oper} {w:Wo} {Q:Exit→Act→Wo→Prop} {a:Act} {rest:List Oper} {dst:Option Tmp} {x ix:Operand} {t ty:TypeId} {pos:String} {after:Array Edge} (v i r:Va) (hx:a.eval x=v) (hi:a.eval ix=i) (h:(Instr.index t v i).run P w= .ok r w) (hk:wpList P ops Q rest (a.put dst r) w):
  wpList P ops Q (⟨dst,.index t x ix,ty,pos,after,none⟩::rest) a w:=
 wpList_plain rfl fun K hK=>by
  unfold Oper.wp;rw[←hx,←hi] at h;simp[execOp,h,Result.andThen];exact hK _ _ hk
theorem Ja:(prog.info? 150).map (·.size)=some 768:=by kernel_rfl
theorem Ls {w:Wo} {pb:Nat} {cells:List aM} {dep:Nat} {sv pv gv:Va} (h:aq w pb 152 (di cells dep sv pv gv)) (hl:cells.length=256):
  (Instr.loadAt 150 (.pointer (some ⟨pb,0,none⟩))).run prog w= .ok (.agg (ew cells).toArray) w:=by
 have hlen:(ew cells).length=768:=by rw[eU,hl]
 have hc:(loadCells ⟨pb,0,none⟩ (ew cells).length).run prog w= .ok (ew cells).toArray w:=
  run_loadCells_list (P:=prog) w ⟨pb,0,none⟩ (ew cells) (fun j v hv=>by
   have UN:(⟨pb,0,none⟩:Addr).add j=⟨pb,j,none⟩:=by unfold Addr.add;split<;>simp_all
   rw[UN];exact h.cell (by unfold di;rw[QN (Ql.1 hv).1];exact hv))
 have abj:(isAgg 150).run prog w= .ok true w:=by unfold isAgg;rw[Sem.run_bind,run_underlying underlying150 w];rfl
 simp only[Instr.loadAt,Instr.sureAddr,Sem.run_bind,Sem.run_pure,Result.andThen];cases hq:prog.info? 150 with
 |none=>have:=Ja;rw[hq] at this;cases this
 |some i=>
  have hs:i.size=(ew cells).length:=by have:=Ja;rw[hq] at this;rw[hlen];simpa using this
  simp[loadVar,Sem.run_bind,abj,sizeOf,typeInfo,hq,hs,hc]
theorem Pa:(prog.info? 149).map (·.size)=some 3:=by kernel_rfl
theorem FJ (cells:List aM) (hl:cells.length=256) (n:Nat) (c:aM) (h:cells[n]? =some c) (w:Wo):
  (Instr.index 150 (.agg (ew cells).toArray) (.int .i64 n)).run prog w= .ok (.agg #[.int .i64 c.block,.int .i64 c.depth,.int .i64 c.ao]) w:=by
 have hn:n<256:=by rw[←hl];exact(Ql.1 h).1
 obtain⟨F,hF⟩:∃F,prog.underlying 149=some (.struct F):=⟨_,underlying149⟩;have abj:(isAgg 149).run prog w= .ok true w:=by unfold isAgg;rw[Sem.run_bind,run_underlying hF w];rfl
 have cz:(sizeOf 149).run prog w= .ok 3 w:=by
  unfold sizeOf typeInfo;cases hq:prog.info? 149 with
  |none=>have:=Pa;rw[hq] at this;cases this
  |some i=>
   have:=Pa;rw[hq] at this;have h3:i.size=3:=by simpa using this
   simp[hq,h3]
 have hex:((ew cells).drop (n*3)).take 3=[.int .i64 c.block,.int .i64 c.depth,.int .i64 c.ao]:=by
  have h0:=iD cells n c h 0 (by decide);have h1:=iD cells n c h 1 (by decide);have h2:=iD cells n c h 2 (by decide);have hlen:n*3+3≤(ew cells).length:=by rw[eU];omega
  rw[XC] at h0;obtain⟨l0,e0⟩:=Ql.1 h0;obtain⟨l1,e1⟩:=Ql.1 h1;obtain⟨l2,e2⟩:=Ql.1 h2;rw[Zd l0,Zd l1,Zd l2,e0,e1,e2];rfl
 have h1:(n:Int)<256:=by omega
 have h2:=Xh n;unfold Instr.index;simp only[asIntOf,Sem.run_bind,Sem.run_pure,XH,run_underlying underlying150];rw[Xo ⟨h2,by omega⟩];simp only[Sem.run_bind,cz,XH,part,abj];simp[cz,hex]
def Ki (c:aM):Prop:=c.depth≤8∧0≤c.block∧c.block<65536
theorem yP {dep:Nat} {ae:List (Nat×Int)} (hs:eQ dep ae):∀c∈bc dep ae,Ki c:=by
 intro c hc;unfold bc at hc;obtain⟨n,-,rfl⟩:=QU.1 hc;rw[Qe];cases hq:(uH dep ae)[n/2^(8 - dep)]? with
 |none=>exact⟨by decide,by decide,by decide⟩
 |some x=>
  have hx:=Qi hq;unfold uH at hx;obtain⟨sg,h1,h2⟩:=QT.1 hx;rw[QJ h2];have hb:=hs.Ej sg h1;have:=hs.d8;exact⟨Qh (Nat.sub_le _ _) this,Int.le_of_lt hb.1,Int.lt_trans hb.2 (by decide)⟩
theorem CZ {cells:List aM} (h:∀c∈cells,Ki c):∀(ao:List ak),(∀c∈ao,qo c)→∀x∈cJ cells ao,Ki x:=by
 have h2:∀(ao:List ak) (i:Nat) (cells:List aM),(∀c∈cells,Ki c)→(∀c∈ao,qo c)→∀x∈foldI fE i ao cells,Ki x:=by
  intro ao;induction ao with
  |nil=>intro i cells h _;exact h
  |cons c r ih=>
   intro i cells h hc;refine ih (i+1) (fE cells i c) (fun x hx=> ?_) (fun y hy=>hc y (Qs _ hy));unfold fE at hx;obtain⟨m,hm,rfl⟩:=List.mem_mapIdx.1 hx;have SP:=hc c Qm;split
   ·refine⟨SP.d8,?_⟩;show 0≤c.blocks.getD 0 0∧c.blocks.getD 0 0<65536;rw[Qe];cases hq:c.blocks[0]? with
    |none=>exact⟨by decide,by decide⟩
    |some y=>have:=SP.kp.pos y (Qi hq);exact⟨this.1,Int.lt_trans this.2 (by decide)⟩
   ·exact h _ (QI _)
 exact fun ao hc=>h2 ao 0 cells h hc
theorem GO {cells:List aM} {c:aM} (h:cells[k]? =some c):jC (cells.take (k+1))=max (jC (cells.take k)) c.depth:=by
 unfold jC;rw[aA cells k c h,List.foldl_append];rfl
theorem at_five {dep:Nat} (h8:dep≤8) (h:(at_.length:Int)=aR (2^dep:Nat)):at_.length≤5:=by
 have h2:=rz h8;unfold aR at h;split at h<;>omega
theorem AC (h:(k:Int)<aR (n:Int)):61*k<n:=by
 unfold aR at h;split at h<;>omega
theorem abX {dep:Nat} (hl:l.length=2^dep) (h:(at_.length:Int)=aR (2^dep:Nat)):∀k,k<at_.length→61*k<l.length:=fun k hk=>by
 rw[hl];exact AC (by rw[←h];omega)
theorem oC (n:Nat):aR (n:Int)=(kB n:Int):=by
 unfold kB;have:0≤aR (n:Int):=by unfold aR;split<;>omega
 omega
theorem rT (h:n≤256):kB n≤5:=by
 have:=oC n;unfold aR at this;split at this<;>omega
theorem vc {w:Wo} {S:Nat→Prop} (h:w.ownsRow b e sz v n xs) (hc:aG S w w') (hS:∀g,v.ownBlock=some g→¬S g):w'.ownsRow b e sz v n xs:=by
 obtain⟨hl,h|⟨g,cap,cur,rfl,h1,h2,h3⟩⟩:=h
 ·exact⟨hl,.inl h⟩
 ·exact⟨hl,.inr ⟨g,cap,cur,rfl,h1,(hc.block g (Qy.1 h2).1 (hS g rfl)).trans h2,h3⟩⟩
theorem pG {w:Wo} (h:w.ownsRow b e sz v n xs) (hg:v.ownBlock=some g):b≤g∧g<w.heap.size:=Xr h g hg
structure kQ (w:Wo) (db pb:Nat) (dc:List Va) (cells:List aM) (dep:Nat) (sv pv gv:Va) (sl pl gl:List Int) (W:Wo):Prop where
 own:aq W pb 152 (di cells dep sv pv gv)
 dir:aq W db 133 dc
 sn:aB W w.heap.size 61 .u16 sv sl
 pn:aB W w.heap.size 3 .i64 pv pl
 gn:aB W w.heap.size 3 .i64 gv gl
 low:Below w.heap.size w W
 lb:w.heap.size≤db∧db<pb
 ne:∀b,gv.ownBlock=some b→pv.ownBlock≠some b
section
variable {w : Wo} {db pb : Nat} {dc : List Va} {cells : List aM} {dep : Nat} {sv pv gv : Va} {sl pl gl : List Int} {W : Wo}
theorem kQ.on (h:kQ w db pb dc cells dep sv pv gv sl pl gl W) (hb:Below W.heap.size W W'):kQ w db pb dc cells dep sv pv gv sl pl gl W' :=
 ⟨h.own.on hb,h.dir.on hb,aB.on h.sn hb,aB.on h.pn hb,aB.on h.gn hb,h.low.trans (hb.mono h.low.size),h.lb,h.ne⟩
theorem iQ.fill {stay:List Int} (h:iQ w db tb pb dc stay cells dep sv (.slice none 0 0) gv gl W) (o:aq W' pb 152 (di cells dep tZ (.slice none 0 0) gv)) (s:aB W' W.heap.size 61 .u16 tZ sl) (c:aG (fun x=>x=pb) W W'):kQ w db pb dc cells dep tZ (.slice none 0 0) gv sl [] gl W' :=
 ⟨o,h.dir.aL c (XP h.lb.2.1),aB.low s h.low.size,cQ _ _ _ _,vc h.gn c (fun g hg e=>(h.ne g hg).2.1 e),h.low.trans (c.below h.low.size (fun x hx e=>by have:=h.lb;omega)),⟨h.lb.1,h.lb.2.1⟩,fun b _ e=>by cases e⟩
theorem kQ.lay (h:kQ w db pb dc cells dep sv (.slice none 0 0) gv sl [] gl W) (hl:cells.length=256) (n:Nat) (hn:n≤100000):
  kQ w db pb dc cells dep sv (.slice (some ⟨W.heap.size,0,none⟩) n n) gv sl (List.replicate n 0) gl ((W.alloc (.cells (List.replicate n (Value.int .i64 0)).toArray 3)).setCell ⟨pb,770,none⟩ (.slice (some ⟨W.heap.size,0,none⟩) n n)):=by
 obtain⟨W1,aW⟩:∃y,y=W.alloc (.cells (List.replicate n (Value.int .i64 0)).toArray 3):=⟨_,rfl⟩;have b1:Below W.heap.size W W1:=by rw[aW];exact aF _ _
 have X1:aq W1 W.heap.size 3 (List.replicate n (Value.int .i64 0)):=by rw[aW];exact ar W _ _
 rw[←aW];have o:=(h.own.on b1).set 770 (.slice (some ⟨W.heap.size,0,none⟩) n n);rw[show(770:Nat)=768+2 from rfl,fC hl 2] at o;have hX:aB W1 w.heap.size 3 .i64 (.slice (some ⟨W.heap.size,0,none⟩) n n) (List.replicate n 0):=by have:=C8 (w:=W1) (g:=W.heap.size) (e:=3) (k:= .i64) (xs:=List.replicate n 0) (base:=w.heap.size) (by rw[List.map_replicate];exact X1) h.low.size (by rw[QK];unfold maxLen;omega);rw[QK] at this;exact this
 refine⟨o,(h.dir.on b1).az (p:=⟨pb,770,none⟩) (XP h.lb.2) _,aB.aT (aB.on h.sn b1) (h.own.on b1) (by decide) _ _,aB.aT hX (h.own.on b1) (by decide) _ _,aB.aT (aB.on h.gn b1) (h.own.on b1) (by decide) _ _,(h.low.trans (b1.mono h.low.size)).setCell (p:=⟨pb,770,none⟩) (Qh h.lb.1 (QX h.lb.2)) _,h.lb,fun b hb e=> ?_⟩;have e:W.heap.size=b:=Qr e;have:=pG h.gn hb;omega
theorem kQ.put {gp c:Nat} (h:kQ w db pb dc cells dep sv (.slice (some ⟨gp,0,none⟩) n c) gv sl pl gl W) (i:Nat) (x:Int):
  kQ w db pb dc cells dep sv (.slice (some ⟨gp,0,none⟩) n c) gv sl (pl.set i x) gl (W.setCell ⟨gp,i,none⟩ (.int .i64 x)):=by
 have ho:=(pG h.pn (g:=gp) rfl).1;have c1:aG (fun y=>y=gp) W (W.setCell ⟨gp,i,none⟩ (.int .i64 x)):=(aG.refl (fun y=>y=gp) W).setCell (p:=⟨gp,i,none⟩) (fun _=>rfl) _;have n1:pb≠gp:=fun e=>h.own.not_row (by decide) h.pn (by rw[e];rfl)
 have n2:db≠gp:=fun e=>h.dir.not_row (by decide) h.pn (by rw[e];rfl)
 refine⟨h.own.aL c1 n1,h.dir.aL c1 n2,vc h.sn c1 (fun g hg e=> ?_),Cp h.pn i x,vc h.gn c1 (fun g hg e=>h.ne g hg (by rw[e];rfl)),h.low.setCell (p:=⟨gp,i,none⟩) ho _,h.lb,h.ne⟩;rcases iT h.sn h.pn (by decide) with q|q
 ·rw[q] at hg;cases hg
 ·exact q (by rw[hg,e];rfl)
theorem kQ.app (h:kQ w db pb dc cells dep sv pv gv sl pl gl W) (hl:cells.length=256) (vy:Va) (ys:List Int) (hy:Ns W B .i64 vy ys) (hn:gl.length+ys.length≤1000000) (ty:TypeId):
  ∃v' W',(Builtin.append_ #[34,34] ty #[gv,vy]).run prog W= .ok v' W'∧(∃A n c,v' = .slice A n c)∧W'.cell? ⟨pb,771,none⟩=some gv∧W'.frozen? ⟨pb,771,none⟩=false∧kQ w db pb dc cells dep sv pv v' sl pl (gl++ys) (W'.setCell ⟨pb,771,none⟩ v'):=by
 obtain⟨v',W',r,o,g,e⟩:=cy (P:=prog) W w.heap.size 34 ty 3 (.int .i64 0) 1 8 underlying34 iE rfl (by decide) gv gl.length _ h.gn vy ys.length _ hy (dW .i64 ys) (by unfold maxLen;omega) (by omega) h.low.size;have o2:aB W' w.heap.size 3 .i64 v' (gl++ys):=by unfold aB;rw[Qo,QL];exact o
 have own:=h.own.grown g (Xm (h.own.not_row (by decide) h.gn));refine⟨v',W',r,o2.bu,own.cell (bq hl 3),own.free 771,?_⟩;have o3:=own.set 771 v';rw[show(771:Nat)=768+3 from rfl,fC hl 3 v'] at o3;refine⟨o3,(h.dir.grown g (Xm (h.dir.not_row (by decide) h.gn))).az (p:=⟨pb,771,none⟩) (XP h.lb.2) v',aB.aT (aB.kept h.sn g (iT h.sn h.gn (by decide))) own (by decide) 771 v',aB.aT (aB.kept h.pn g ?_) own (by decide) 771 v',aB.aT o2 own (by decide) 771 v',(h.low.grown g h.low.size (fun j e=>(pG h.gn e).1)).setCell (p:=⟨pb,771,none⟩) (Qh h.lb.1 (QX h.lb.2)) v',h.lb,fun b hb hp=> ?_⟩
 ·cases hq:gv.ownBlock with
  |none=>
   cases hp:pv.ownBlock with
   |none=>exact .inl rfl
   |some b=>exact .inr (by simp)
  |some b=>exact .inr (h.ne b hq)
 ·rcases e with e|e
  ·exact h.ne b (e▸hb) hp
  ·rw[e] at hb;have hb:=Qr hb;have:=(pG h.pn hp).2;omega
end
theorem wl_appR {P:Program} {ops:Array Oper} {w:Wo} {Q:Exit→Act→Wo→Prop} {a:Act} {rest:List Oper} {dst:Option Tmp} {os ox:Operand} {t ty:TypeId} {pos:String} {after:Array Edge} (v vx v' :Va) (h:(Builtin.append_ #[t,t] ty #[v,vx]).run P w= .ok v' w') (hs:a.eval os=v) (hx:a.eval ox=vx) (hk:wpList P ops Q rest (a.put dst v') w'):
  wpList P ops Q (⟨dst,.call {callee:= .builtin .append,args:= #[os,ox],argTypes:= #[t,t]},ty,pos,after,none⟩::rest) a w:=
 wpList_plain rfl fun K hK=>by
  unfold Oper.wp;rw[ea hs hx h];exact hK _ _ hk
theorem vF (at_ wG bP:List Int):(jF at_ wG bP).length=kB bP.length:=by simp[jF]
theorem F8 {wG bP:List Int} (h:k<kB bP.length):(jF at_ wG bP)[k]? =some (qv at_ wG bP k):=by
 unfold jF;rw[Qt,List.getElem?_range h];rfl
theorem Cj {x:Int} (hl:l.length=n) (hk:k<n) (hx:l[k]? =some x):(l.take k++List.replicate (n - k) 0).set k x=l.take (k+1)++List.replicate (n - (k+1)) 0:=by
 have h1:(l.take k).length=k:=by rw[Qu,hl];omega
 rw[aA l k x hx,ZB _ _ (by rw[h1];exact Qg _),h1,XE,QY,show n - k=(n - (k+1))+1 by omega,List.replicate_succ];rfl
theorem Co {w:Wo} {c:Nat} {e:TypeId} {k:IntKind} {xs:List Int} {j:Nat} {x:Int} (h:aB w base e k (.slice (some ⟨g,0,none⟩) n c) xs) (hj:xs[j]? =some x):w.cell? ⟨g,j,none⟩=some (.int k x):=by
 obtain⟨b,o,c',hv,-,-,-,hc⟩:=Ns.cells h.ns (QO (Qp j) (Ql.1 hj).1);injection hv with h1 h2 h3
 injection h1 with h1
 injection h1 with h1 h2
 subst h1 h2;have:=hc j (Ql.1 hj).1;rw[QR,Qe,hj] at this;exact this
theorem PM {x:Int} (h:l[k]? =some x):l.set k x=l:=by
 obtain⟨hk,rfl⟩:=Ql.1 h;exact List.set_getElem_self hk
theorem Jd (hl:l.length=n) (hk:k<n):(l.take k++List.replicate (n - k) 0)[k]? =some 0:=by
 have h1:(l.take k).length=k:=by rw[Qu,hl];omega
 rw[QM (by rw[h1];exact Qg _),h1,XE,Zr,Xo (by omega)]
theorem zV (w:Wo) (dep:Nat) (ae:List (Nat×Int)) (at_:List Int) (rn:eQ dep ae) (dv av:Va) (ue:Ns w w.heap.size .u16 dv (expand ae)) (AE:Ns w w.heap.size .i64 av at_) (ei:(at_.length:Int)=aR (2^dep:Nat)) (S:Nat→Prop) (gv cv:Va) (gone ao:List ak) (hg:mI w S gv gone) (hc:mI w S cv ao) (AU:gone.length≤20) (oJ:ao.length≤10000) (JM:∀c∈gone,ru c) (AW:∀c∈ao,qo c) (mW:(dD ao).length≤100000):
  Calls prog 66 #[.agg #[.int .u8 dep,dv],av,gv,cv] w fun r w' =>∃pb sv pv TQ,r= .returned (.pointer (some ⟨pb,0,none⟩))∧w.heap.size≤pb∧aq w' pb 152 (di (bt dep ae at_ gone ao).cells (bt dep ae at_ gone ao).dep sv pv TQ)∧
   aB w' w.heap.size 61 .u16 sv (bt dep ae at_ gone ao).bP∧aB w' w.heap.size 3 .i64 pv (bt dep ae at_ gone ao).ag∧aB w' w.heap.size 3 .i64 TQ (bt dep ae at_ gone ao).gone∧Below w.heap.size w w' :=by
 have agV:at_.length≤5:=at_five rn.d8 ei;have hol:=abX rn.sum ei;obtain⟨Ag,cg,rfl⟩:=hg.form;obtain⟨Ac,cc,rfl⟩:=hc.form;obtain⟨Ad,cd,rfl,-,-⟩:=ue.form;obtain⟨Aa,ca,rfl,-,-⟩:=AE.form;obtain⟨G,hG⟩:∃n,n=gone.length:=⟨_,rfl⟩;obtain⟨C,hC⟩:∃n,n=ao.length:=⟨_,rfl⟩;obtain⟨nd,im⟩:∃n,n=(expand ae).length:=⟨_,rfl⟩;obtain⟨na,Ez⟩:∃n,n=at_.length:=⟨_,rfl⟩;have J1:Ns w w.heap.size .u16 (.slice Ad nd cd) (expand ae):=by rw[im];exact ue
 have agU:Ns w w.heap.size .i64 (.slice Aa na ca) at_:=by rw[Ez];exact AE
 rw[←hG,←hC,←im,←Ez];have HG:=aa hg;have HC:=aa hc;have HD:Af (eQ dep ae∧Ns w w.heap.size .u16 (.slice Ad nd cd) (expand ae)∧Ns w w.heap.size .i64 (.slice Aa na ca) at_∧na=at_.length∧at_.length≤5∧nd=(expand ae).length∧(∀k,k<at_.length→61*k<(expand ae).length)∧(expand ae).length≤256):=⟨rn,J1,agU,Ez,agV,im,hol,rn.len⟩;have HN:Af (G=gone.length∧C=ao.length∧G≤20∧C≤10000∧(∀c∈gone,ru c)∧(∀c∈ao,qo c)∧(dD ao).length≤100000):=⟨hG,hC,by omega,by omega,JM,AW,mW⟩;obtain⟨W1,aW⟩:∃y,y=w.alloc (.cells #[.int .u8 dep,.slice Ad nd cd] 133):=⟨_,rfl⟩;have X1:aq W1 w.heap.size 133 [.int .u8 dep,.slice Ad nd cd]:=by rw[aW];exact ar w [_,_] _
 have b1:Below w.heap.size w W1:=by rw[aW];exact aF _ _
 obtain⟨db,iU⟩:∃y,y=w.heap.size:=⟨_,rfl⟩;rw[←iU] at X1;have tl:Af (aq W1 db 133 [.int .u8 dep,.slice Ad nd cd]∧Below w.heap.size w W1∧db=w.heap.size):=⟨X1,b1,iU⟩;have gB:Af (w.alloc (.cells #[.int .u8 dep,.slice Ad nd cd] 133)=W1∧w.heap.size=db):=⟨aW.symm,iU.symm⟩;have x0:=X1.cell (j:=0) rfl;have x1:=X1.cell (j:=1) rfl;obtain⟨T1,rh⟩:∃T,T=(ew (bc dep ae)).toArray:=⟨_,rfl⟩;obtain⟨T2,tG⟩:∃T,T=(di (bc dep ae) 0 (.slice none 0 0) (.slice none 0 0) (.slice none 0 0)).toArray:=⟨_,rfl⟩;have J2:=G8 W1 dep ae rn (.slice Ad nd cd) (Sl.more (Sl.below J1 b1) b1.size);rw[←rh] at J2;have je:=aa J2;have agS:∀W,(Instr.build 152 #[(0,.agg T1)]).run prog W= .ok (.agg T2) W:=fun W=>by
  rw[rh,tG];exact G9 W _ (by rw[eU,cX])
 have JT:=aa tG;have ahc:=aa agS;clear rn ue AE J1 agU agV hol ei hg hc hG hC im Ez AU oJ JM AW mW aW X1 b1 iU rh tG J2 agS;go_enter func66,ntmps66;go_upto_region 1 with fail
 rw[gB.o.1,gB.o.2];go_upto_region 2 with(go_at_call 146;go_must(refine je.o.mono ?_);rintro e W2 ⟨rfl,b2⟩;have B2:=aa b2;clear b2;rename_i K0 hK0;refine hK0 _ _ ?_;refine wl_build1 (.agg T1) (.agg T2) rfl (ahc.o W2) ?_)
 clear x0 x1 ahc;obtain⟨W3,cD⟩:∃y,y=W2.alloc (.cells T2 152):=⟨_,rfl⟩;obtain⟨pb,xy⟩:∃y,y=W2.heap.size:=⟨_,rfl⟩;rw[←cD,←xy];have X3:aq W3 pb 152 (di (bc dep ae) 0 (.slice none 0 0) (.slice none 0 0) (.slice none 0 0)):=by rw[cD,xy,JT.o];exact ar W2 _ _
 have b3:Below W2.heap.size W2 W3:=by rw[cD];exact aF _ _
 have l12:Below W1.heap.size W1 W3:=B2.o.trans (b3.mono B2.o.size);have l3:Below w.heap.size w W3:=tl.o.2.1.trans (l12.mono tl.o.2.1.size);have Em:Af (aq W3 pb 152 (di (bc dep ae) 0 (.slice none 0 0) (.slice none 0 0) (.slice none 0 0))∧aq W3 db 133 [.int .u8 dep,.slice Ad nd cd]∧Below w.heap.size w W3∧db<pb):=⟨X3,tl.o.1.on l12,l3,by rw[xy];exact Qn tl.o.1.lt B2.o.size⟩
 have AL:=aa (sZ W3 (fun x=>w.heap.size≤x) (.slice Ac C cc) ao (((by rw[HN.o.2.1];exact HC.o):mI w S (.slice Ac C cc) ao).apart (T:=fun x=>w.heap.size≤x) (fun x hx=>Or.inr hx) |>.on l3) (by rw[←HN.o.2.1];exact HN.o.2.2.2.1))
 have HCc:Af (∀(W:Wo) (v:Va) (ls:List (Va×List Int)),NsL W v ls→ls.map Prod.snd=ao.map (·.blocks)→Calls prog 119 #[v] W fun e w' =>∃v',e= .returned v'∧aB w' W.heap.size 3 .i64 v' (dD ao)∧Below W.heap.size W w'):=fun W v ls h1 h2=>by
  have e1:ls.flatMap Prod.snd=dD ao:=by
   have:ls.flatMap Prod.snd=(ls.map Prod.snd).flatten:=rfl;rw[this,h2];rfl
  have h3:=nQ W v ls h1 (by have:=XF List.length h2;rw[Qq,Qq] at this;rw[this,←HN.o.2.1];exact HN.o.2.2.2.1) (by unfold iL;rw[e1];exact HN.o.2.2.2.2.2.2)
  rw[e1] at h3;exact h3
 have anS:Af (w.heap.size≤db):=by show _≤_;rw[tl.o.2.2];exact Qg _
 clear cD xy X3 b3 l12 l3 je JT tl gB;go_upto_region 3 with(first
  |(go_at_call 147;go_must(refine AL.o.mono ?_);rintro e W4 ⟨v4,ls4,rfl,q4,m4,b4,-⟩;obtain⟨A4,c4,rfl⟩:=q4.form;have HC4:=aa (HCc.o W4 _ ls4 (q4.nsL b4.size) m4);have B4:=aa b4;clear b4 q4 m4)
  |(go_at_call 119;go_must(refine HC4.o.mono ?_);rintro e W5 ⟨v5,rfl,o5,b5⟩;obtain⟨A5,n5,c5,rfl⟩:=o5.bu;have O5:=aa o5;have B5:=aa (B4.o.trans (b5.mono B4.o.size));have Yl:=aa b5;clear o5 b5))
 obtain⟨W6,jc⟩:∃y,y=W5.alloc (.cells #[.slice A5 n5 c5] 34):=⟨_,rfl⟩;obtain⟨tb,pS⟩:∃y,y=W5.heap.size:=⟨_,rfl⟩;rw[←jc,←pS];have ST3:Af (iQ w db tb pb [.int .u8 dep,.slice Ad nd cd] (dD ao) (cJ (bc dep ae) (ao.take 0)) 0 (.slice none 0 0) (.slice none 0 0) (.slice none 0 0) [] W6):=by
  have b6:Below W5.heap.size W5 W6:=by rw[jc];exact aF _ _
  have l36:Below W3.heap.size W3 W6:=B5.o.trans (b6.mono B5.o.size);have X6:aq W6 tb 34 [.slice A5 n5 c5]:=by rw[jc,pS];exact ar W5 [_] _
  have pT:=O5.o.ns;obtain⟨A,cx,hv,-,-⟩:=pT.form;have hn5:n5=(dD ao).length:=by injection hv
  rw[hn5] at X6 pT;refine⟨Em.o.1.on l36,Em.o.2.1.on l36,⟨A5,c5,X6,(Ns.below pT b6).more (by rw[pS];exact Q0 _),by rw[←hn5];exact jG O5.o (fun x hx=>by have h1:=Em.o.1.lt;have h2:=B4.o.size;omega)⟩,cQ _ _ _ _,Em.o.2.2.1.trans (l36.mono Em.o.2.2.1.size),⟨?_,Em.o.2.2.2,?_,X6.lt⟩,fun b hb=>by cases hb⟩
  ·exact anS.o
  ·rw[pS];exact Qn Em.o.1.lt B5.o.size
 clear jc pS AL HCc HC4 B4 B5 Yl O5;have hCn:=HN.o.2.2.2.1;go_wp2_with fail
 go_loopw [31] (fun iv wr=>∃k:Nat,iv= .int .i64 k∧Af (k≤C∧iQ w db tb pb [.int .u8 dep,.slice Ad nd cd] (dD ao) (cJ (bc dep ae) (ao.take k)) 0 (.slice none 0 0) (.slice none 0 0) (.slice none 0 0) [] wr)) (fun iv _=>C - (intOf iv).toNat)
 case atStart=>exact⟨0,rfl,Qp _,ST3.o⟩
 case round=>
  obtain⟨k,rfl,HR⟩:=hrel;by_cases hk:k<C
  ·obtain⟨c,jV⟩:∃c,ao[k]? =some c:=⟨_,Qf (by rw[←HN.o.2.1];exact hk)⟩
   obtain⟨b,o,rr,A1,A2,m1,c1,m2,c2,hv,bO,z0,z1,z2,z3,kG⟩:=HC.o.lG jV;obtain rfl:Ac=some ⟨b,o,none⟩:=by injection hv
   have jZ:=HN.o.2.2.2.2.2.1 c (Qi jV);have aU:=HR.o.2.low;have y0:=(aU.cell (p:=⟨b,o+k*4,none⟩) bO).trans z0;have y1:=(aU.cell (p:=⟨b,o+k*4+1,none⟩) bO).trans z1;have y2:=(aU.cell (p:=⟨b,o+k*4+2,none⟩) bO).trans z2;have y3:=(aU.cell (p:=⟨b,o+k*4+3,none⟩) bO).trans z3;obtain⟨fr,eo⟩:∃y,y=c.ax:=⟨_,rfl⟩;obtain⟨dp,eK⟩:∃y,y=c.depth:=⟨_,rfl⟩;rw[←eo] at y0;rw[←eK] at y1;have fg:0<c.blocks.length:=by rw[jZ.kp.len];exact List.length_pos_iff.2 jZ.ne
   obtain⟨e1,-,b1,o1,b2,o2,sh,Ae,ne,ce,rfl,rfl,l1,-,-,q1,-,-,-,-,-⟩:=Fo kG jZ.kp.len fg;obtain⟨tj,ky⟩:∃z,z=wr.alloc (.cells #[.int .i64 fr,.int .i64 dp,.slice (some ⟨b1,o1,none⟩) m1 c1,.slice (some ⟨b2,o2,none⟩) m2 c2] 50):=⟨_,rfl⟩;have X3:aq tj wr.heap.size 50 [.int .i64 fr,.int .i64 dp,.slice (some ⟨b1,o1,none⟩) m1 c1,.slice (some ⟨b2,o2,none⟩) m2 c2]:=by rw[ky];exact ar wr [_,_,_,_] _
   have b3:Below wr.heap.size wr tj :=by rw[ky];exact aF _ _
   obtain⟨xb,eD⟩:∃z,z=wr.heap.size:=⟨_,rfl⟩;rw[←eD] at X3;have H3:Af (iQ w db tb pb [.int .u8 dep,.slice Ad nd cd] (dD ao) (eA (cJ (bc dep ae) (ao.take k)) k c 0) 0 (.slice none 0 0) (.slice none 0 0) (.slice none 0 0) [] tj∧aq tj xb 50 [.int .i64 fr,.int .i64 dp,.slice (some ⟨b1,o1,none⟩) m1 c1,.slice (some ⟨b2,o2,none⟩) m2 c2]∧tb<xb):=⟨by rw[GU];exact HR.o.2.on b3,X3,by rw[eD];exact HR.o.2.lb.2.2.2⟩
   obtain⟨b0,jr⟩:∃y,y=c.blocks.getD 0 0:=⟨_,rfl⟩;have HX:Af (ao[k]? =some c∧k<C∧qo c∧fr=c.ax∧dp=c.depth∧b0=c.blocks.getD 0 0∧w.cell? ⟨b1,o1,none⟩=some (.int .i64 b0)∧b1<w.heap.size∧m1=c.blocks.length∧0<m1):=⟨jV,hk,jZ,eo,eK,jr,by rw[jr];exact q1 0 fg,l1,e1,by rw[e1];exact fg⟩
   have mT:Af (wr.alloc (.cells #[.int .i64 fr,.int .i64 dp,.slice (some ⟨b1,o1,none⟩) m1 c1,.slice (some ⟨b2,o2,none⟩) m2 c2] 50)=tj∧wr.heap.size=xb):=⟨ky.symm,eD.symm⟩;obtain⟨u1,u2,u3⟩:=bR hk (Qh HN.o.2.2.2.1 (show 10000≤100000 by decide)) (by decide);have Hu:=aa u1;clear jV hv bO z0 z1 z2 z3 kG jZ aU eo eK fg e1 l1 q1 ky X3 b3 eD jr HR hk u1;go_upto_region 6 with fail
   rw[mT.o.1,mT.o.2];clear y0 y1 y2 y3;go_wp2_with fail
   go_loopw [36] (fun jv wr=>∃n:Nat,jv= .int .i64 n∧Af (n≤256∧iQ w db tb pb [.int .u8 dep,.slice Ad nd cd] (dD ao) (eA (cJ (bc dep ae) (ao.take k)) k c n) 0 (.slice none 0 0) (.slice none 0 0) (.slice none 0 0) [] wr∧aq wr xb 50 [.int .i64 fr,.int .i64 dp,.slice (some ⟨b1,o1,none⟩) m1 c1,.slice (some ⟨b2,o2,none⟩) m2 c2])) (fun jv _=>256 - (intOf jv).toNat)
   case atStart=>exact⟨0,rfl,Qp _,H3.o.1,H3.o.2.1⟩
   case round=>
    obtain⟨n,rfl,HI⟩:=hrel;by_cases hn:n<256
    ·have n0:(0:Int)≤n:=Xh n
     have n1:(n:Int)<256:=by omega
     have w1:wrap64 ((n:Int)+1)=(n:Int)+1:=by unfold wrap64;omega
     have Hn:Af (n<256∧wrap64 ((n:Int)+1)=(n:Int)+1):=⟨hn,w1⟩;have hlen:(cJ (bc dep ae) (ao.take k)).length=256:=by unfold cJ;rw[jt,cX]
     obtain⟨x,hx⟩:∃x,(cJ (bc dep ae) (ao.take k))[n]? =some x:=⟨_,Qf (by rw[hlen];exact hn)⟩
     obtain⟨g1,g2⟩:=GV (i:=k) (c:=c) hx;obtain⟨R,hR⟩:∃R,R=bY c.ax c.depth n:=⟨_,rfl⟩;have HT:=tV wr c.ax c.depth n HX.o.2.2.1.f256 HX.o.2.2.1.d8 hn (.slice (some ⟨b1,o1,none⟩) m1 c1) (.slice (some ⟨b2,o2,none⟩) m2 c2);rw[←hR,←HX.o.2.2.2.1,←HX.o.2.2.2.2.1] at HT
     replace HT:=aa HT
     have x0:=HI.o.2.2.cell (j:=0) rfl;obtain⟨-,x1,x2,x3⟩:=mm HI.o.2.2;have qg:=aa HI.o;rw[←hR] at g2;have wM:Af ((eA (cJ (bc dep ae) (ao.take k)) k c n)[n]? =some x∧eA (cJ (bc dep ae) (ao.take k)) k c (n+1)=if R=true then(eA (cJ (bc dep ae) (ao.take k)) k c n).set n ⟨c.blocks.getD 0 0,c.depth,k+1⟩ else eA (cJ (bc dep ae) (ao.take k)) k c n):=⟨g1,g2⟩;clear hlen hx g1 g2 hR HI hn w1
     cases R
     ·go_wp2_with(go_at_call 140;go_must(refine HT.o.mono ?_);rintro e W8 ⟨rfl,b8⟩;have B8:=aa b8;clear b8)
      have e1:=wM.o.2;rw[Xd (by decide)] at e1;exact⟨⟨n+1,by first|rfl|(rw[Hn.o.2];rfl),Hn.o.1,by rw[e1];exact qg.o.2.1.on B8.o,qg.o.2.2.on B8.o⟩,by first|exact al Hn.o.1|(rw[Hn.o.2];exact al Hn.o.1)⟩
     ·go_upto_region 10 with(go_at_call 140;go_must(refine HT.o.mono ?_);rintro e W8 ⟨rfl,b8⟩;have B8:=aa b8;clear b8)
      clear x0 x1 x2 x3;have hp8:=qg.o.2.1.on B8.o;have hx8:=qg.o.2.2.on B8.o;obtain⟨Wd,dJ⟩:∃y,y=W8.drew:=⟨_,rfl⟩;have AG:Af (W8.drew=Wd):=dJ.symm;have te:iQ w db tb pb [.int .u8 dep,.slice Ad nd cd] (dD ao) (eA (cJ (bc dep ae) (ao.take k)) k c n) 0 (.slice none 0 0) (.slice none 0 0) (.slice none 0 0) [] Wd:=by rw[dJ];exact hp8.on (below_drewN (Xj _ _) 1)
      have MB:aq Wd xb 50 [.int .i64 fr,.int .i64 dp,.slice (some ⟨b1,o1,none⟩) m1 c1,.slice (some ⟨b2,o2,none⟩) m2 c2]:=by rw[dJ];exact hx8
      have x1:=MB.cell (j:=1) rfl;have x2:=MB.cell (j:=2) rfl;have v0:Wd.cell? ⟨b1,o1,none⟩=some (.int .i64 b0):=(te.low.cell (p:=⟨b1,o1,none⟩) HX.o.2.2.2.2.2.2.2.1).trans HX.o.2.2.2.2.2.2.1;have k0:Wd.cell? ⟨pb,n*3,none⟩=some (.int .i64 x.block):=te.own.cell (gT n x wM.o.1 0 (by decide));have k1:Wd.cell? ⟨pb,n*3+1,none⟩=some (.int .i64 x.depth):=te.own.cell (gT n x wM.o.1 1 (by decide));have k2:Wd.cell? ⟨pb,n*3+2,none⟩=some (.int .i64 x.ao):=te.own.cell (gT n x wM.o.1 2 (by decide));have f0:=te.own.free (n*3);have f1:=te.own.free (n*3+1);have f2:=te.own.free (n*3+2);have m0:(0:Int)<m1:=by have:=HX.o.2.2.2.2.2.2.2.2.2;omega
      have m0' :0<m1:=HX.o.2.2.2.2.2.2.2.2.2;have HP:=aa te;have HXd:=aa MB;clear hp8 hx8 te MB dJ;refine wp_region_still_tail 14 (by kernel_rfl) (by kernel_rfl) ?_;simp only[Zw,Zq,Zk,Zl];change wpStill _ _ (World.drew W8) (fun a' =>wpList _ _ _ _ a' (World.drew W8)) _ _;rw[AG.o]
      repeat still_step
      refine wpStill_nil ?_;go_wp2_with fail;have s1:=HP.o.set (n*3) (.int .i64 b0) (il n x {x with block:=b0} 0 _ wM.o.1 rfl (by decide)) rfl;have oc:n<(eA (cJ (bc dep ae) (ao.take k)) k c n).length:=(Ql.1 wM.o.1).1;have s2:=s1.set (n*3+1) (.int .i64 dp) (il n {x with block:=b0} ⟨b0,dp,x.ao⟩ 1 _ (by rw[List.getElem?_set_self oc]) rfl (by decide)) rfl;have s3:=s2.set (n*3+2) (.int .i64 ((k:Int)+1)) (il n ⟨b0,dp,x.ao⟩ ⟨b0,dp,k+1⟩ 2 _ (by rw[List.set_set,List.getElem?_set_self oc]) rfl (by decide)) rfl;rw[List.set_set,List.set_set] at s3;have e1:=wM.o.2;rw[Xo trivial,←HX.o.2.2.2.2.1,←HX.o.2.2.2.2.2.1] at e1;rw[←e1] at s3;have hxp:xb≠pb:=XO (Nat.lt_trans HP.o.lb.2.2.1 H3.o.2.2);exact⟨⟨n+1,by first|rfl|(rw[Hn.o.2];rfl),Hn.o.1,s3,((HXd.o.az (p:=⟨pb,n*3,none⟩) hxp _).az (p:=⟨pb,n*3+1,none⟩) hxp _).az (p:=⟨pb,n*3+2,none⟩) hxp _⟩,by first|exact al Hn.o.1|(rw[Hn.o.2];exact al Hn.o.1)⟩
    ·have yW:n=256:=QE HI.o.1 (QC hn)
     have HE:Af (iQ w db tb pb [.int .u8 dep,.slice Ad nd cd] (dD ao) (cJ (bc dep ae) (ao.take (k+1))) 0 (.slice none 0 0) (.slice none 0 0) (.slice none 0 0) [] wr):=by
      have h1:=HI.o.2.1;rw[yW,Mh (by unfold cJ;rw[jt,cX])] at h1
      rw[GS HX.o.1];exact h1
     subst yW;clear HI hn;go_wp2_with fail;exact⟨⟨k+1,by first|rfl|(rw[Hu.o];rfl),HX.o.2.1,HE.o⟩,by first|exact al HX.o.2.1|(rw[Hu.o];exact al HX.o.2.1)⟩
  ·have SJ:k=C:=QE HR.o.1 (QC hk)
   have cO:=HR.o.2;rw[SJ,Qj (by rw[HN.o.2.1];exact Qg _)] at cO
   have HS:=aa cO;obtain rfl:=SJ.symm;clear HR hk cO ST3;go_wp2_with fail
   go_loopw [60] (fun iv wr=>∃(k:Nat) (gv:Va),iv= .int .i64 k∧Af (k≤G∧iQ w db tb pb [.int .u8 dep,.slice Ad nd cd] (dD ao) (cJ (bc dep ae) ao) 0 (.slice none 0 0) (.slice none 0 0) gv (iY (gone.take k) ao) wr)) (fun iv _=>G - (intOf iv).toNat)
   case atStart=>exact⟨0,_,rfl,Qp _,HS.o⟩
   case round=>
    obtain⟨k,gv,rfl,HR⟩:=hrel;by_cases hk:k<G
    ·obtain⟨c,jV⟩:∃c,gone[k]? =some c:=⟨_,Qf (by rw[←HN.o.1];exact hk)⟩
     obtain⟨b,o,rr,A1,A2,m1,c1,m2,c2,hv,bO,z0,z1,z2,z3,kG⟩:=HG.o.lG jV;obtain rfl:Ag=some ⟨b,o,none⟩:=by injection hv
     have tg:=HN.o.2.2.2.2.1 c (Qi jV);have aU:=HR.o.2.low;have y0:=(aU.cell (p:=⟨b,o+k*4,none⟩) bO).trans z0;have y1:=(aU.cell (p:=⟨b,o+k*4+1,none⟩) bO).trans z1;have y2:=(aU.cell (p:=⟨b,o+k*4+2,none⟩) bO).trans z2;have y3:=(aU.cell (p:=⟨b,o+k*4+3,none⟩) bO).trans z3;obtain⟨fr,eo⟩:∃y,y=c.ax:=⟨_,rfl⟩;obtain⟨dp,eK⟩:∃y,y=c.depth:=⟨_,rfl⟩;have MJ:Ns w w.heap.size .i64 (.slice A1 m1 c1) c.blocks:=by
      obtain⟨bv,sv,ps,he,g1,-⟩:=kG.ex;obtain⟨rfl,-⟩: .slice A1 m1 c1=bv∧_:=by simpa using he
      exact g1
     rw[←eo] at y0;rw[←eK] at y1;obtain⟨NU,M8,NA,rfl⟩:=HR.o.2.gn.bu;obtain⟨tj,ky⟩:∃z,z=wr.alloc (.cells #[.int .i64 fr,.int .i64 dp,.slice A1 m1 c1,.slice A2 m2 c2] 50):=⟨_,rfl⟩;have X3:aq tj wr.heap.size 50 [.int .i64 fr,.int .i64 dp,.slice A1 m1 c1,.slice A2 m2 c2]:=by rw[ky];exact ar wr [_,_,_,_] _
     have b3:Below wr.heap.size wr tj :=by rw[ky];exact aF _ _
     obtain⟨xb,eD⟩:∃z,z=wr.heap.size:=⟨_,rfl⟩;rw[←eD] at X3;have mT:Af (wr.alloc (.cells #[.int .i64 fr,.int .i64 dp,.slice A1 m1 c1,.slice A2 m2 c2] 50)=tj∧wr.heap.size=xb):=⟨ky.symm,eD.symm⟩;obtain⟨Wd,dJ⟩:∃y,y=tj.drew:=⟨_,rfl⟩;have AG:Af (tj.drew=Wd):=dJ.symm;have te:iQ w db tb pb [.int .u8 dep,.slice Ad nd cd] (dD ao) (cJ (bc dep ae) ao) 0 (.slice none 0 0) (.slice none 0 0) (.slice NU M8 NA) (iY (gone.take k) ao) Wd:=by rw[dJ];exact(HR.o.2.on b3).on (below_drewN (Xj _ _) 1)
     have X3d:aq Wd xb 50 [.int .i64 fr,.int .i64 dp,.slice A1 m1 c1,.slice A2 m2 c2]:=by rw[dJ];exact X3
     have HCo:=aa (Fl Wd (.slice A1 m1 c1) c.blocks w.heap.size (Ns.below MJ te.low) (Qh tg.y7 (by decide)));have HP:=aa te;have HXb:=aa X3d;have Tc:Af (∀W,Below Wd.heap.size Wd W→W.cell? ⟨pb,771,none⟩=some (.slice NU M8 NA)∧W.cell? ⟨xb,2,none⟩=some (.slice A1 m1 c1)):=fun W hW=>
      ⟨(HP.o.own.on hW).cell (bq (by unfold cJ;rw[jt,cX]) 3),(HXb.o.on hW).cell rfl⟩
     have HX:Af (gone[k]? =some c∧k<G∧ru c∧(iY (gone.take k) ao).length+c.blocks.length≤1000000):=⟨jV,hk,tg,by
      have h1:=rW (ao:=ao) (gone:=gone.take k) (fun x hx=>HN.o.2.2.2.2.1 x (Za hx));have h2:(gone.take k).length≤20:=Qh (List.length_take_le _ _) (Qh (QX hk) HN.o.2.2.1);have h3:=tg.y7;have h4:=Nat.mul_le_mul_right 4096 h2;omega⟩
     have hmf:∀W,(Instr.makeFunc (Fn.func 149) #[] #[.pointer (some ⟨tb,0,none⟩)]).run prog W= .ok (Sw tb) W:=fun W=>rfl
     obtain⟨u1,u2,u3⟩:=bR hk (Qh HN.o.2.2.1 (show 20≤100000 by decide)) (by decide);have Hu:=aa u1;clear jV hv bO z0 z1 z2 z3 kG tg aU eo eK MJ ky X3 b3 eD dJ te X3d HR hk u1;go_upto_region 16 with fail
     rw[mT.o.1,mT.o.2];clear y0 y1 y2 y3;refine bL (fun j=>[13].contains j) (fun W=>W.cell? ⟨pb,771,none⟩=some (.slice NU M8 NA)∧W.cell? ⟨xb,2,none⟩=some (.slice A1 m1 c1)) (by kernel_rfl) ?_;rw[AG.o];have L:=Xj Wd.heap.size Wd;refine aK (i:=0) (some 64) (v:= .pointer (some ⟨pb,0,none⟩)) rfl rfl (by kernel_rfl) (fP (by kernel_rfl)) (fun _ _ _ h=>h) (Or.inl ⟨by rfl,fun W hW=>by go_simp⟩) (Tc.o _ L) ?_
     try simp only[Act.put,Qb,Qc,Qd]
     refine aK (i:=1) (some 65) (v:= .pointer (some ⟨pb,0,none⟩)) rfl rfl (by kernel_rfl) (fP (by kernel_rfl)) (fun _ _ _ h=>h) (Or.inl ⟨by rfl,fun W hW=>by go_simp⟩) (Tc.o _ L) ?_
     try simp only[Act.put,Qb,Qc,Qd]
     refine aK (i:=2) (some 66) (v:= .pointer (some ⟨pb,0,none⟩)) rfl rfl (by kernel_rfl) (fP (by kernel_rfl)) (fun _ _ _ h=>h) (Or.inl ⟨by rfl,fun W hW=>by go_simp⟩) (Tc.o _ L) ?_
     try simp only[Act.put,Qb,Qc,Qd]
     refine aK (i:=3) (some 67) (v:= .pointer (some ⟨pb,771,none⟩)) rfl rfl (by kernel_rfl) (fP (by kernel_rfl)) (fun _ _ _ h=>h) (Or.inl ⟨by rfl,fun W hW=>by go_simp⟩) (Tc.o _ L) ?_
     try simp only[Act.put,Qb,Qc,Qd]
     refine aK (i:=4) (some 68) (v:= .slice NU M8 NA) rfl rfl (by kernel_rfl) (fP (by kernel_rfl)) (fun _ _ _ h=>h) (Or.inl ⟨by rfl,fun W hW=>by have h1_:=hW.1;go_simp⟩) (Tc.o _ L) ?_
     try simp only[Act.put,Qb,Qc,Qd]
     refine aK (i:=5) (some 69) (v:= .pointer (some ⟨xb,2,none⟩)) rfl rfl (by kernel_rfl) (fP (by kernel_rfl)) (fun _ _ _ h=>h) (Or.inl ⟨by rfl,fun W hW=>by go_simp⟩) (Tc.o _ L) ?_
     try simp only[Act.put,Qb,Qc,Qd]
     refine aK (i:=6) (some 70) (v:= .slice A1 m1 c1) rfl rfl (by kernel_rfl) (fP (by kernel_rfl)) (fun _ _ _ h=>h) (Or.inl ⟨by rfl,fun W hW=>by have h1_:=hW.2;go_simp⟩) (Tc.o _ L) ?_
     try simp only[Act.put,Qb,Qc,Qd]
     refine aK (i:=8) (some 72) (v:=Sw tb) rfl rfl (by kernel_rfl) (fP (by kernel_rfl)) (fun _ _ _ h=>h) (Or.inl ⟨by rfl,fun W hW=>by unfold Sw;go_simp⟩) (Tc.o _ L) ?_
     try simp only[Act.put,Qb,Qc,Qd]
     refine ju 7 rfl (by kernel_rfl) fun K hK=> ?_
     go_simp;go_at_call 99;refine Calls.mono HCo.o ?_;rintro e V7 ⟨v7,rfl,o7,b7⟩;obtain⟨A7,n7,c7,rfl⟩:=o7.bu;have L:=L.trans b7;go_simp;refine hK.out _ _ (fun _=>(Tc.o _ L)) ?_;clear hK K
     try simp only[Act.put,Qb,Qc,Qd]
     refine ju 9 rfl (by kernel_rfl) fun K hK=> ?_
     have hD:=zZ V7 Wd.heap.size _ _ o7 L.size (Qh HX.o.2.2.1.y7 (by decide)) tb (dD ao) (HP.o.stay (base:=Wd.heap.size) HP.o.lb.2.2.2 |>.below L) HN.o.2.2.2.2.2.2;go_simp;go_at_call 148;refine Calls.mono hD ?_;rintro e V9 ⟨v9,rfl,o9,b9⟩;obtain⟨A9,n9,c9,rfl⟩:=o9.bu;have L:=L.trans b9;go_simp;refine hK.out _ _ (fun _=>(Tc.o _ L)) ?_;clear hK K
     try simp only[Act.put,Qb,Qc,Qd]
     refine ju 10 rfl (by kernel_rfl) fun K hK=> ?_
     obtain⟨v10,ND,r10,⟨A10,n10,EE,rfl⟩,ahK,ag3,p10,g10,-⟩:=(HP.o.on L).app (by unfold cJ;rw[jt,cX]) _ _ o9.ns (Qh (Nat.add_le_add_left (List.length_filter_le _ _) _) HX.o.2.2.2) 34
     rw[←Gt HX.o.1] at p10;have MS:ND.cell? ⟨pb,771,none⟩=some (.slice NU M8 NA)∧ND.cell? ⟨xb,2,none⟩=some (.slice A1 m1 c1):=⟨ahK,((HXb.o.on L).grown g10 (Xm ((HXb.o.on L).not_row (by decide) (HP.o.on L).gn))).cell rfl⟩;refine gM (some 74) rfl (by rfl) (ea rfl rfl r10) ?_;refine hK.out _ _ (fun _=>MS) ?_;clear hK K
     try simp only[Act.put,Qb,Qc,Qd]
     refine aK (i:=11) (some 75) (v:= .pointer (some ⟨pb,0,none⟩)) rfl rfl (by kernel_rfl) (fP (by kernel_rfl)) (fun _ _ _ h=>h) (Or.inl ⟨by rfl,fun W hW=>by go_simp⟩) MS ?_
     try simp only[Act.put,Qb,Qc,Qd]
     refine aK (i:=12) (some 76) (v:= .pointer (some ⟨pb,771,none⟩)) rfl rfl (by kernel_rfl) (fP (by kernel_rfl)) (fun _ _ _ h=>h) (Or.inl ⟨by rfl,fun W hW=>by go_simp⟩) MS ?_
     try simp only[Act.put,Qb,Qc,Qd]
     refine ju 13 rfl (by kernel_rfl) fun K hK=> ?_
     go_simp;refine hK.out _ _ (fun h=>absurd h (by decide)) ?_;clear hK K
     try simp only[Act.put,Qb,Qc,Qd]
     refine bD (by kernel_rfl) ?_ _;go_wp2_with fail;exact⟨⟨k+1,_,by first|rfl|(rw[Hu.o];rfl),HX.o.2.1,p10⟩,by first|exact al HX.o.2.1|(rw[Hu.o];exact al HX.o.2.1)⟩
    ·have Wu:k=G:=QE HR.o.1 (QC hk)
     have cO:=HR.o.2;rw[Wu,Qj (by rw[HN.o.1];exact Qg _)] at cO
     have NL:=aa cO;obtain rfl:=Wu.symm;obtain⟨CV,hCV⟩:∃y,y=cJ (bc dep ae) ao:=⟨_,rfl⟩;rw[←hCV] at NL;have ze:Af (CV=cJ (bc dep ae) ao∧CV.length=256∧∀c∈CV,Ki c):=⟨hCV,by rw[hCV];unfold cJ;rw[jt,cX],by rw[hCV];exact CZ (yP HD.o.1) ao HN.o.2.2.2.2.2.1⟩
     obtain⟨GL,hGL⟩:∃y,y=iY gone ao:=⟨_,rfl⟩;rw[←hGL] at NL;have HGL:=aa hGL;obtain⟨T4,hT4⟩:∃T,T=(ew CV).toArray:=⟨_,rfl⟩;have ZQ:(Instr.loadAt 150 (.pointer (some ⟨pb,0,none⟩))).run prog wr= .ok (.agg T4) wr:=by
      rw[hT4];exact Ls NL.o.own ze.o.2.1
     have HLc:=aa ZQ;have HT4:=aa hT4;clear HR hk cO HS hCV hGL ZQ hT4;go_wp2_with((with_reducible refine wl_load (.pointer (some ⟨pb,0,none⟩)) (.agg T4) ?_ HLc.o ?_);go_must((·rfl);skip))
     clear HLc
     go_loopw [82] (fun iv wr=>∃(k d:Nat),iv= .int .i64 k∧Af (k≤256∧d=jC (CV.take k)∧d≤8∧iQ w db tb pb [.int .u8 dep,.slice Ad nd cd] (dD ao) CV d (.slice none 0 0) (.slice none 0 0) gv GL wr)) (fun iv _=>256 - (intOf iv).toNat)
     case atStart=>exact⟨0,0,rfl,Qp _,rfl,Qp _,NL.o⟩
     case round=>
      obtain⟨k,d,rfl,HR⟩:=hrel;by_cases hk:k<256
      ·obtain⟨c,hc⟩:∃c,CV[k]? =some c:=⟨_,Qf (by rw[ze.o.2.1];exact hk)⟩
       have ec:=ze.o.2.2 c (Qi hc);obtain⟨bk,ej⟩:∃y,y=c.block:=⟨_,rfl⟩;obtain⟨dp,eK⟩:∃y,y=c.depth:=⟨_,rfl⟩;obtain⟨cm,oS⟩:∃y,y=c.ao:=⟨_,rfl⟩;have hix:=FJ CV ze.o.2.1 k c hc;rw[←HT4.o,←ej,←eK,←oS] at hix;have HIx:=aa hix;have d8:=HR.o.2.2.1;have dp8:dp≤8:=by rw[eK];exact ec.1
       have q1:IntKind.u8.wrap (dp:Int)=dp:=by unfold IntKind.wrap;simp[IntKind.signed,IntKind.bits];omega
       have k0:(0:Int)≤k:=Xh k;have k1:(k:Int)<256:=by omega
       have w1:wrap64 ((k:Int)+1)=(k:Int)+1:=by unfold wrap64;omega
       have Hw:=aa w1;obtain⟨tj,ky⟩:∃z,z=wr.alloc (.cells #[.int .i64 bk,.int .i64 dp,.int .i64 cm] 149):=⟨_,rfl⟩;have X3:aq tj wr.heap.size 149 [.int .i64 bk,.int .i64 dp,.int .i64 cm]:=by rw[ky];exact ar wr [_,_,_] _
       have b3:Below wr.heap.size wr tj :=by rw[ky];exact aF _ _
       obtain⟨xb,eD⟩:∃z,z=wr.heap.size:=⟨_,rfl⟩;rw[←eD] at X3;have mT:Af (wr.alloc (.cells #[.int .i64 bk,.int .i64 dp,.int .i64 cm] 149)=tj∧wr.heap.size=xb):=⟨ky.symm,eD.symm⟩;obtain⟨Wd,dJ⟩:∃y,y=tj.drew:=⟨_,rfl⟩;have AG:Af (tj.drew=Wd):=dJ.symm;have te:iQ w db tb pb [.int .u8 dep,.slice Ad nd cd] (dD ao) CV d (.slice none 0 0) (.slice none 0 0) gv GL Wd:=by rw[dJ];exact(HR.o.2.2.2.on b3).on (below_drewN (Xj _ _) 1)
       have x1:Wd.cell? ⟨xb,1,none⟩=some (.int .i64 dp):=by rw[dJ];exact X3.cell rfl
       have x0:Wd.cell? ⟨pb,768,none⟩=some (.int .u8 d):=te.own.cell (bq ze.o.2.1 0);have xf:=te.own.free 768;have HP:=aa te;have HX:Af (k<256∧CV[k]? =some c∧d=jC (CV.take k)∧d≤8∧dp=c.depth∧dp≤8):=⟨hk,hc,HR.o.2.1,d8,eK,dp8⟩;clear hc ec ej eK oS hix d8 dp8 w1 ky X3 b3 eD dJ te HR hk;go_upto_region 21 with((with_reducible refine wl_index1 (.agg T4) (.int .i64 k) _ ?_ ?_ (HIx.o _) ?_);go_must((·rfl);(·rfl);skip))
       rw[mT.o.1,mT.o.2];refine wp_region_still_tail 13 (by kernel_rfl) (by kernel_rfl) ?_;simp only[Zw,Zq,Zk,Zl];change wpStill _ _ (World.drew tj) (fun a' =>wpList _ _ _ _ a' (World.drew tj)) _ _;rw[AG.o]
       repeat still_step
       refine wpStill_nil ?_;go_wp2_with fail;have hm:max (d:Int) (dp:Int)=((max d dp:Nat):Int):=by omega
       rw[hm];refine⟨⟨k+1,max d dp,by first|rfl|(rw[Hw.o];rfl),HX.o.1,?_,?_,?_⟩,by first|exact al HX.o.1|(rw[Hw.o];exact al HX.o.1)⟩
       ·rw[GO HX.o.2.1,←HX.o.2.2.1,←HX.o.2.2.2.2.1]
       ·exact Nat.max_le.2 ⟨HX.o.2.2.2.1,HX.o.2.2.2.2.2⟩
       ·exact HP.o.set 768 (.int .u8 ((max d dp:Nat):Int)) (by rw[show(768:Nat)=768+0 from rfl,fC ze.o.2.1 0];rfl) rfl
      ·have cH:k=256:=QE HR.o.1 (QC hk)
       have cO:=HR.o.2.2.2;have qc:=HR.o.2.2.1;have hdd:=HR.o.2.1;rw[cH,Qj (by rw[ze.o.2.1];exact Qg _)] at hdd
       have HS5:Af (iQ w db tb pb [.int .u8 dep,.slice Ad nd cd] (dD ao) CV d (.slice none 0 0) (.slice none 0 0) gv GL wr∧d≤8∧d=jC CV):=⟨cO,qc,hdd⟩;subst cH;have HFl:=aa (yH wr pb CV d _ _ gv cO.own ze.o.2.1 qc (fun c hc=>(ze.o.2.2 c hc).2));clear HR hk cO qc hdd NL;go_upto_region 24 with(go_at_call 150;go_must(refine HFl.o.mono ?_);rintro e W5 ⟨sv,rfl,x5,s5,c5⟩;obtain⟨Bk,wH,Bc,rfl⟩:=s5.bu;have HS6:=aa (HS5.o.1.fill x5 s5 c5);clear x5 s5 c5)
       obtain⟨SL,ML⟩:∃y,y=dS d CV:=⟨_,rfl⟩;rw[←ML] at HS6;have kr:SL.length=wH∧SL.length≤256:=by
        obtain⟨A,c,e,-,-⟩:=HS6.o.sn.ns.form;injection e with e1 e2 e3
        refine⟨e2.symm,?_⟩;rw[ML,fe];exact(rz HS5.o.2.1).2
       obtain⟨PN,hPN⟩:∃y,y=kB SL.length:=⟨_,rfl⟩;have pW:Af (SL=dS d CV∧SL.length=wH∧SL.length≤256∧PN=kB SL.length∧PN≤5):=⟨ML,kr.1,kr.2,hPN,by rw[hPN];exact rT kr.2⟩
       have tz:=dY W5 (wH:Int) (Xh _) (by rw[←kr.1];have:=kr.2;omega)
       rw[←kr.1,oC,←hPN,kr.1] at tz;have EJ:=aa tz;obtain⟨gp,hgp⟩:∃y,y=W5.heap.size:=⟨_,rfl⟩;have aa2:=HS6.o.lay ze.o.2.1 PN (Qh pW.o.2.2.2.2 (by decide));have yX:(Instr.makeSlice 34 (.int .i64 PN) (.int .i64 PN)).run prog W5= .ok (.slice (some ⟨W5.heap.size,0,none⟩) PN PN) (W5.alloc (.cells (List.replicate PN (Value.int .i64 0)).toArray 3)):=eV underlying34 iE (eC .i64 0) (by decide) PN (Qh pW.o.2.2.2.2 (by decide)) W5;obtain⟨W6,jc⟩:∃y,y=W5.alloc (.cells (List.replicate PN (Value.int .i64 0)).toArray 3):=⟨_,rfl⟩;rw[←jc,←hgp] at aa2 yX;have b6:Below W5.heap.size W5 W6:=by rw[jc];exact aF _ _
       have aaS:W5.cell? ⟨pb,769,none⟩=some (.slice Bk wH Bc):=HS6.o.own.cell (bq ze.o.2.1 1);have amR:W6.cell? ⟨pb,770,none⟩=some (.slice none 0 0):=(HS6.o.own.on b6).cell (bq ze.o.2.1 2);have anq:W6.frozen? ⟨pb,770,none⟩=false:=(HS6.o.own.on b6).free 770;have HS7:=aa aa2;clear ML kr hPN tz hgp aa2 jc b6 HFl;go_upto_region 25 with(go_at_call 36;go_must(refine EJ.o.mono ?_);rintro e W5' ⟨rfl,rfl⟩)
       obtain⟨W7,Eh⟩:∃y,y=W6.setCell ⟨pb,770,none⟩ (.slice (some ⟨gp,0,none⟩) PN PN):=⟨_,rfl⟩;rw[←Eh] at HS7⊢;clear Eh yX aaS amR anq EJ;obtain⟨OL,hOL⟩:∃y,y=expand ae:=⟨_,rfl⟩;obtain⟨PV,hPV⟩:∃y,y=jF at_ OL SL:=⟨_,rfl⟩;have JV:Af (PV=jF at_ OL SL∧PV.length=PN∧OL=expand ae):=⟨hPV,by rw[hPV,vF,pW.o.2.2.2.1],hOL⟩;have HS8:Af (kQ w db pb [.int .u8 dep,.slice Ad nd cd] CV d (.slice Bk wH Bc) (.slice (some ⟨gp,0,none⟩) PN PN) gv SL (PV.take 0++List.replicate (PN - 0) 0) GL W7):=HS7.o;have af4:W7.cell? ⟨pb,770,none⟩=some (.slice (some ⟨gp,0,none⟩) PN PN):=HS7.o.own.cell (bq ze.o.2.1 2);have Hdd:Af (d=jC CV):=HS5.o.2.2;clear hOL hPV HS7 HS6 HS5;go_wp2_with fail;clear af4
       go_loopw [117] (fun iv wr=>∃k:Nat,iv= .int .i64 k∧Af (k≤PN∧kQ w db pb [.int .u8 dep,.slice Ad nd cd] CV d (.slice Bk wH Bc) (.slice (some ⟨gp,0,none⟩) PN PN) gv SL (PV.take k++List.replicate (PN - k) 0) GL wr)) (fun iv _=>PN - (intOf iv).toNat)
       case atStart=>exact⟨0,rfl,Qp _,HS8.o⟩
       case round=>
        obtain⟨k,rfl,HR⟩:=hrel;by_cases hk:k<PN
        ·have amK:wr.cell? ⟨pb,769,none⟩=some (.slice Bk wH Bc):=HR.o.2.own.cell (bq ze.o.2.1 1)
         have x1:wr.cell? ⟨db,1,none⟩=some (.slice Ad nd cd):=HR.o.2.dir.cell rfl;obtain⟨u1,u2,u3⟩:=bR hk pW.o.2.2.2.2 (by decide);have Hu:=aa u1;have hpt:=rS wr (.slice Bk wH Bc) SL HR.o.2.sn.ns (Qh pW.o.2.2.1 (by decide)) k (AC (by rw[oC,←pW.o.2.2.2.1];omega))
         have JU:=aa hpt;have cU:=aa HR.o.2;have pY:PV[k]? =some (qv at_ OL SL k):=by rw[JV.o.1];exact F8 (by rw[←pW.o.2.2.2.1];exact hk)
         obtain⟨pg,tz⟩:∃y,y=qv at_ OL SL k:=⟨_,rfl⟩;rw[←tz] at pY;have HX:Af (k<PN∧PV[k]? =some pg∧pg=qv at_ OL SL k):=⟨hk,pY,tz⟩;have Ul:Af (pg=0→∀W,Below wr.heap.size wr W→kQ w db pb [.int .u8 dep,.slice Ad nd cd] CV d (.slice Bk wH Bc) (.slice (some ⟨gp,0,none⟩) PN PN) gv SL (PV.take (k+1)++List.replicate (PN - (k+1)) 0) GL W):=fun h0 W hW=>by
          have h1:=cU.o.on hW;have h2:=Cj JV.o.2.1 HX.o.1 HX.o.2.1;rw[h0,PM (Jd JV.o.2.1 HX.o.1)] at h2;rw[←h2];exact h1
         clear hpt pY tz HR hk u1;by_cases hka:k<na
         ·have k1:(k:Int)<na:=by omega
          have k0:(0:Int)≤k:=Xh k;obtain⟨R1,hR1⟩:∃y,y=(bG SL k).contains 0:=⟨_,rfl⟩;obtain⟨R2,SU⟩:∃y,y=decide (bG SL k=bG OL k):=⟨_,rfl⟩;have ahj:Af (∀W,Below wr.heap.size wr W→Calls prog 151 #[.slice Ad nd cd,.int .i64 k] W fun e w' =>(∃v',e= .returned v'∧Ns W W.heap.size .u16 v' (bG OL k))∧W=w'):=fun W hW=>
           rS W _ OL (Ns.more (Ns.below (by rw[JV.o.2.2];exact HD.o.2.1) (cU.o.low.trans (hW.mono cU.o.low.size))) (Qh cU.o.low.size hW.size)) (by rw[JV.o.2.2];exact Qh HD.o.2.2.2.2.2.2.2 (by decide)) k (by rw[JV.o.2.2];exact HD.o.2.2.2.2.2.2.1 k (by rw[←HD.o.2.2.2.1];exact hka))
          have dh:∀l:List Int,(bG l k).length≤100000:=fun l=>by unfold bG;rw[Qu];omega
          have pX:Af ((bG SL k).contains 0=R1∧R2=decide (bG SL k=bG OL k)∧(bG SL k).length≤100000∧k<na):=⟨hR1.symm,SU,dh SL,hka⟩;clear hR1 SU dh hka
          cases R1
          ·cases R2
           ·have Om:Af (pg=0):=by
             show _=_;rw[HX.o.2.2];unfold qv;rw[Xd (fun h=>absurd h.2.2 (of_decide_eq_false pX.o.2.1.symm))]
            go_wp2_with(first
             |(go_at_call 151;with_reducible refine JU.o.mono ?_;go_must(skip);rintro e W8 ⟨⟨v8,rfl,q8⟩,rfl⟩;obtain⟨A8,c8,rfl,-,-⟩:=q8.form;have yY:=kE _ _ _ q8 pX.o.2.2.1 0;rw[pX.o.1] at yY;have Yc:=aa yY;have Q8:=aa q8;clear q8 yY)
             |(go_at_call 152;go_must(refine Yc.o.mono ?_);rintro e W9 ⟨rfl,b9⟩;have hP9:=ahj.o W9 b9;have HP9:=aa hP9;have Q9:=aa ((Ns.below Q8.o b9).more b9.size);have B9:=aa b9;have x9:W9.cell? ⟨db,1,none⟩=some (.slice Ad nd cd):=(cU.o.on b9).dir.cell rfl;clear b9 hP9)
             |(go_at_call 151;with_reducible refine HP9.o.mono ?_;go_must(skip);rintro e uh ⟨⟨v10,rfl,YY⟩,rfl⟩;obtain⟨A10,EE,rfl,-,-⟩:=YY.form;have hE:=vQ _ _ _ _ _ Q9.o YY pX.o.2.2.1;rw[←pX.o.2.1] at hE;have HEq:=aa hE;clear hE YY)
             |(go_at_call 153;go_must(refine HEq.o.mono ?_);rintro e MP ⟨rfl,Ek⟩;have Th:=aa (B9.o.trans (Ek.mono B9.o.size));clear Ek))
            exact⟨⟨k+1,by first|rfl|(rw[Hu.o];rfl),HX.o.1,Ul.o Om.o _ Th.o⟩,by first|exact al HX.o.1|(rw[Hu.o];exact al HX.o.1)⟩
           ·have an0:Af (pg=at_.getD k 0):=by
             show _=_;rw[HX.o.2.2];unfold qv;rw[Xo ⟨by rw[←HD.o.2.2.2.1];exact pX.o.2.2.2,by rw[pX.o.1];rfl,XQ pX.o.2.1.symm⟩]
            go_upto_region 30 with(first
             |(go_at_call 151;with_reducible refine JU.o.mono ?_;go_must(skip);rintro e W8 ⟨⟨v8,rfl,q8⟩,rfl⟩;obtain⟨A8,c8,rfl,-,-⟩:=q8.form;have yY:=kE _ _ _ q8 pX.o.2.2.1 0;rw[pX.o.1] at yY;have Yc:=aa yY;have Q8:=aa q8;clear q8 yY)
             |(go_at_call 152;go_must(refine Yc.o.mono ?_);rintro e W9 ⟨rfl,b9⟩;have hP9:=ahj.o W9 b9;have HP9:=aa hP9;have Q9:=aa ((Ns.below Q8.o b9).more b9.size);have B9:=aa b9;have x9:W9.cell? ⟨db,1,none⟩=some (.slice Ad nd cd):=(cU.o.on b9).dir.cell rfl;clear b9 hP9)
             |(go_at_call 151;with_reducible refine HP9.o.mono ?_;go_must(skip);rintro e uh ⟨⟨v10,rfl,YY⟩,rfl⟩;obtain⟨A10,EE,rfl,-,-⟩:=YY.form;have hE:=vQ _ _ _ _ _ Q9.o YY pX.o.2.2.1;rw[←pX.o.2.1] at hE;have HEq:=aa hE;clear hE YY)
             |(go_at_call 153;go_must(refine HEq.o.mono ?_);rintro e MP ⟨rfl,Ek⟩;have Th:=aa (B9.o.trans (Ek.mono B9.o.size));clear Ek))
            obtain⟨Wd,dJ⟩:∃y,y=MP.drew:=⟨_,rfl⟩;have AG:Af (MP.drew=Wd):=dJ.symm;have te:kQ w db pb [.int .u8 dep,.slice Ad nd cd] CV d (.slice Bk wH Bc) (.slice (some ⟨gp,0,none⟩) PN PN) gv SL (PV.take k++List.replicate (PN - k) 0) GL Wd:=by rw[dJ];exact(cU.o.on Th.o).on (below_drewN (Xj _ _) 1)
            have amJ:Wd.cell? ⟨pb,770,none⟩=some (.slice (some ⟨gp,0,none⟩) PN PN):=te.own.cell (bq ze.o.2.1 2);obtain⟨ba,oa,ca',AE,-,-,pq,AX⟩:=HD.o.2.2.1.cells (by rw[←HD.o.2.2.2.1];exact QO (Qp _) pX.o.2.2.2)
            obtain rfl:Aa=some ⟨ba,oa,none⟩:=by injection AE
            have zat:Wd.cell? ⟨ba,oa+k,none⟩=some (.int .i64 pg):=by
             rw[an0.o];exact(te.low.cell (p:=⟨ba,oa+k,none⟩) pq).trans (AX k (by rw[←HD.o.2.2.2.1];exact pX.o.2.2.2))
            have avA:Wd.cell? ⟨gp,k,none⟩=some (.int .i64 0):=Co te.pn (Jd JV.o.2.1 HX.o.1);have zf:Wd.frozen? ⟨gp,k,none⟩=false:=jN te.pn k;have HP:=aa te;have HXn:=aa (Cj JV.o.2.1 HX.o.1 HX.o.2.1);clear dJ te AE pq AX amK x1;refine wp_region_still_tail 10 (by kernel_rfl) (by kernel_rfl) ?_;simp only[Zw,Zq,Zk,Zl];change wpStill _ _ (World.drew MP) (fun a' =>wpList _ _ _ _ a' (World.drew MP)) _ _;rw[AG.o]
            repeat still_step
            refine wpStill_nil ?_;go_wp2_with fail;have agj:=HP.o.put k pg;rw[HXn.o] at agj;exact⟨⟨k+1,by first|rfl|(rw[Hu.o];rfl),HX.o.1,agj⟩,by first|exact al HX.o.1|(rw[Hu.o];exact al HX.o.1)⟩
          ·have Om:Af (pg=0):=by
            show _=_;rw[HX.o.2.2];unfold qv;rw[Xd (fun h=>by have:=h.2.1;rw[pX.o.1] at this;cases this)]
           go_wp2_with(first
            |(go_at_call 151;with_reducible refine JU.o.mono ?_;go_must(skip);rintro e W8 ⟨⟨v8,rfl,q8⟩,rfl⟩;obtain⟨A8,c8,rfl,-,-⟩:=q8.form;have yY:=kE _ _ _ q8 pX.o.2.2.1 0;rw[pX.o.1] at yY;have Yc:=aa yY;have Q8:=aa q8;clear q8 yY)
            |(go_at_call 152;go_must(refine Yc.o.mono ?_);rintro e W9 ⟨rfl,b9⟩;have B9:=aa b9;clear b9))
           exact⟨⟨k+1,by first|rfl|(rw[Hu.o];rfl),HX.o.1,Ul.o Om.o _ B9.o⟩,by first|exact al HX.o.1|(rw[Hu.o];exact al HX.o.1)⟩
         ·have Om:Af (pg=0):=by
           show _=_;rw[HX.o.2.2];unfold qv;rw[Xd (fun h=>hka (by rw[HD.o.2.2.2.1];exact h.1))]
          have k0:¬(k:Int)<na:=by omega
          clear hka;go_wp2_with(go_at_call 151;go_must(refine JU.o.mono ?_);rintro e W8 ⟨⟨v8,rfl,q8⟩,rfl⟩;obtain⟨A8,c8,rfl,-,-⟩:=q8.form;clear q8)
          exact⟨⟨k+1,by first|rfl|(rw[Hu.o];rfl),HX.o.1,Ul.o Om.o _ (Xj _ _)⟩,by first|exact al HX.o.1|(rw[Hu.o];exact al HX.o.1)⟩
        ·have cH:k=PN:=QE HR.o.1 (QC hk)
         have cO:=HR.o.2;rw[cH,XE,List.replicate_zero,Zi,Qj (by rw[JV.o.2.1];exact Qg _)] at cO
         have HS9:=aa cO;obtain rfl:=cH.symm;clear HR hk cO HS8;go_upto_region 32 with fail
         have ahh:Af (kQ w db pb [.int .u8 dep,.slice Ad nd cd] CV d (.slice Bk wH Bc) (.slice (some ⟨gp,0,none⟩) PN PN) gv SL PV (foldI (dA PV) 0 (at_.take 0) GL) wr):=HS9.o;clear HS9;have agn:na≤5:=by rw[HD.o.2.2.2.1];exact HD.o.2.2.2.2.1
         have anO:=aa agn;clear agn;go_wp2_with fail
         go_loopw [157] (fun iv wr=>∃(k:Nat) (gv:Va),iv= .int .i64 k∧Af (k≤na∧kQ w db pb [.int .u8 dep,.slice Ad nd cd] CV d (.slice Bk wH Bc) (.slice (some ⟨gp,0,none⟩) PN PN) gv SL PV (foldI (dA PV) 0 (at_.take k) GL) wr)) (fun iv _=>na - (intOf iv).toNat)
         case atStart=>exact⟨0,_,rfl,Qp _,ahh.o⟩
         case round=>
          obtain⟨k,gv,rfl,HR⟩:=hrel;by_cases hk:k<na
          ·obtain⟨ba,oa,ca',AE,-,-,pq,AX⟩:=HD.o.2.2.1.cells (by rw[←HD.o.2.2.2.1];exact QO (Qp _) hk)
           obtain rfl:Aa=some ⟨ba,oa,none⟩:=by injection AE
           obtain⟨pg,tz⟩:∃y,y=at_.getD k 0:=⟨_,rfl⟩;have zat:wr.cell? ⟨ba,oa+k,none⟩=some (.int .i64 pg):=by
            rw[tz];exact(HR.o.2.low.cell (p:=⟨ba,oa+k,none⟩) pq).trans (AX k (by rw[←HD.o.2.2.2.1];exact hk))
           have hpk:at_[k]? =some pg:=by rw[tz,Qe,Qf (by rw[←HD.o.2.2.2.1];exact hk)];rfl
           have amJ:wr.cell? ⟨pb,770,none⟩=some (.slice (some ⟨gp,0,none⟩) PN PN):=HR.o.2.own.cell (bq ze.o.2.1 2);have avB:wr.cell? ⟨pb,771,none⟩=some gv:=HR.o.2.own.cell (bq ze.o.2.1 3);obtain⟨u1,u2,u3⟩:=bR hk anO.o (by decide);have Hu:=aa u1;have HX:Af (k<na∧foldI (dA PV) 0 (at_.take (k+1)) GL=dA PV (foldI (dA PV) 0 (at_.take k) GL) k pg∧(foldI (dA PV) 0 (at_.take k) GL).length+[pg].length≤1000000):=⟨hk,lW _ _ _ _ hpk _,by
            have h1:=rW (ao:=ao) HN.o.2.2.2.2.1;rw[←HGL.o,←HN.o.1] at h1;have h2:=Nat.mul_le_mul_right 4096 HN.o.2.2.1;have h3:=zF PV (at_.take k) 0 GL;have h4:(at_.take k).length≤5:=by have:=HD.o.2.2.2.2.1;rw[Qu];omega
            rw[ZA];omega⟩
           have cU:=aa HR.o.2;have Up:Af (PV.getD k 0=0→∀(W:Wo),Below wr.heap.size wr W→∀(g:Nat),aq W g 3 [.int .i64 pg]→∀ty,∃v' W',(Builtin.append_ #[34,34] ty #[gv,.slice (some ⟨g,0,none⟩) 1 1]).run prog W= .ok v' W'∧(∃A n c,v' = .slice A n c)∧W'.cell? ⟨pb,771,none⟩=some gv∧W'.frozen? ⟨pb,771,none⟩=false∧kQ w db pb [.int .u8 dep,.slice Ad nd cd] CV d (.slice Bk wH Bc) (.slice (some ⟨gp,0,none⟩) PN PN) v' SL PV (foldI (dA PV) 0 (at_.take (k+1)) GL) (W'.setCell ⟨pb,771,none⟩ v')):=fun h0 W hW g hg ty=>by
            have h1:=(cU.o.on hW).app ze.o.2.1 (.slice (some ⟨g,0,none⟩) 1 1) [pg] (hg.rw.sl (n:=1) (sz:=1) rfl (Qg _) (by decide)) HX.o.2.2 ty;rw[HX.o.2.1];unfold dA;rw[Xo h0];exact h1
           have p0:(0:Int)≤k:=Xh k;have ZX:=cU.o.gn.bu;clear AE pq AX tz hpk HR hk u1;by_cases tg:k<PN
           ·have p1:(k:Int)<PN:=by omega
            have p3:¬PN≤k:=Nat.not_le.2 tg;obtain⟨pz,hpz⟩:∃y,y=PV.getD k 0:=⟨_,rfl⟩;have zp:wr.cell? ⟨gp,k,none⟩=some (.int .i64 pz):=Co cU.o.pn (by rw[hpz,Qe,Qf (by rw[JV.o.2.1];exact tg)];rfl)
            have Hpz:=aa hpz;clear tg hpz;by_cases hz:pz=0
            ·have Hz:Af (PV.getD k 0=0):=Hpz.o.symm.trans hz
             obtain⟨NU,M8,NA,rfl⟩:=ZX;subst hz;obtain⟨v9,W9,r9,⟨A9,n9,c9,rfl⟩,amX,ag3,p9⟩:=Up.o Hz.o (wr.alloc (.cells #[.int .i64 pg] 3)) (aF _ _) wr.heap.size (ar wr [_] _) 34;have WV:=aa r9;have HP9:=aa p9;clear r9 p9;go_wp2_with((with_reducible refine wl_appR (.slice NU M8 NA) (.slice (some ⟨wr.heap.size,0,none⟩) 1 1) _ WV.o ?_ ?_ ?_);go_must((·rfl);(·rfl);skip))
             exact⟨⟨k+1,_,by first|rfl|(rw[Hu.o];rfl),HX.o.1,HP9.o⟩,by first|exact al HX.o.1|(rw[Hu.o];exact al HX.o.1)⟩
            ·have Hz:Af (¬PV.getD k 0=0):=fun h=>hz (Hpz.o.trans h)
             obtain⟨NU,M8,NA,rfl⟩:=ZX;have hzb:(pz==0)=false:=by simpa using hz
             go_wp2_with fail;refine⟨⟨k+1,.slice NU M8 NA,by first|rfl|(rw[Hu.o];rfl),HX.o.1,?_⟩,by first|exact al HX.o.1|(rw[Hu.o];exact al HX.o.1)⟩
             rw[HX.o.2.1];unfold dA;rw[Xd Hz.o];exact cU.o
           ·have p1:¬(k:Int)<PN:=by omega
            have p2:(PN:Int)≤k:=by omega
            have Hz:Af (PV.getD k 0=0):=by
             show _=_;rw[Qe,QQ (by rw[JV.o.2.1];exact QC tg)]
             rfl
            obtain⟨NU,M8,NA,rfl⟩:=ZX;clear tg;obtain⟨v9,W9,r9,⟨A9,n9,c9,rfl⟩,amX,ag3,p9⟩:=Up.o Hz.o (wr.alloc (.cells #[.int .i64 pg] 3)) (aF _ _) wr.heap.size (ar wr [_] _) 34;have WV:=aa r9;have HP9:=aa p9;clear r9 p9;go_wp2_with((with_reducible refine wl_appR (.slice NU M8 NA) (.slice (some ⟨wr.heap.size,0,none⟩) 1 1) _ WV.o ?_ ?_ ?_);go_must((·rfl);(·rfl);skip))
            exact⟨⟨k+1,_,by first|rfl|(rw[Hu.o];rfl),HX.o.1,HP9.o⟩,by first|exact al HX.o.1|(rw[Hu.o];exact al HX.o.1)⟩
          ·have cH:k=na:=QE HR.o.1 (QC hk)
           have cO:=HR.o.2;rw[cH,Qj (by rw[HD.o.2.2.2.1];exact Qg _)] at cO
           have anY:=aa cO;obtain rfl:=cH.symm;clear HR hk cO ahh;go_wp2_with fail;go_ret;have cO:=anY.o;have e1:bt dep ae at_ gone ao=⟨CV,d,SL,PV,foldI (dA PV) 0 at_ GL⟩:=by
            show qD.mk (cJ (bc dep ae) ao) (jC (cJ (bc dep ae) ao)) (dS (jC (cJ (bc dep ae) ao)) (cJ (bc dep ae) ao)) (jF at_ (expand ae) (dS (jC (cJ (bc dep ae) ao)) (cJ (bc dep ae) ao))) (foldI (dA (jF at_ (expand ae) (dS (jC (cJ (bc dep ae) ao)) (cJ (bc dep ae) ao)))) 0 at_ (iY gone ao))=_;rw[←ze.o.1,←Hdd.o,←pW.o.1,←JV.o.2.2,←JV.o.1,←HGL.o]
           rw[e1];exact⟨pb,rfl,Qh cO.lb.1 (QX cO.lb.2),_,_,_,cO.own,cO.sn,cO.pn,cO.gn,cO.low⟩
end
end Go.Proofs.YthgdhacopamklaaGreat

/- HashRoom holds: an entry that there is no room for is refused and nothing changes, each takes no more than an Add may need. No conditions. -/
import Derived.Test.YtjjomjobllcleaaGreatTAG
set_option maxHeartbeats 16000000
set_option maxRecDepth 100000
set_option linter.all false
namespace Go.Proofs.YtjjomjobllcleaaGreat
open Go.Proofs.Tryz
open List (replicate range)
section
open Go.ChangeShapes Go.WideShapes Go.ChangeAt Go.RowKit
theorem hashRoom_lifted(os:Os)(started:os.Started)(H:Type)(enc:TypeId×Va->H):
  ReturnsInHanded {} Tryz.checked os 3 .any (Rows.hashRoomSpec.pre6 enc prog Tryz.f3 Rows.hashRoomRow.domain false) (Rows.hashRoomSpec.post enc prog Tryz.f3 false true false false):=by
 refine returnsInHanded_of_change (C:=Tryz.checked) Ri started KJ func3
  (ChangeSpec.witness6 (enc:=enc) (C:=Tryz.checked) false ⟨#[],#[io 0,()],[]⟩ 8 KJ KJ KJ KJ) ?_
 intro W base args ds gs before Yv hW avQ _;have aaT:=Yv;have hW' :=hW;obtain⟨p,q,hA0,hV,rfl,hfz,im⟩:=hW;have hA:=hA0;rw[params3] at hA aaT;obtain⟨v0,vs0,d0,ds0,p0,q0,ar2,rfl,rfl,h0,r0⟩:=trodAll_cons hA;obtain⟨v1,vs1,d1,SY,p1,q1,rfl,rfl,rfl,h1,r1⟩:=trodAll_cons r0;obtain⟨rfl,rfl,rfl⟩:=trodAll_nil r1;obtain rfl:args= #[v0,v1]:=by cases args;simp_all
 obtain⟨rfl,rfl⟩:=trodVars_none hV;obtain⟨a0,rfl,rfl,rfl,w0⟩:=open_int underlying5 (aaT 0 5 v0 rfl rfl) h0;have u0:=is_u8 w0;have lt1:∀x∈p1,x.block<W.heap.size:=by obtain⟨m,hm⟩:=h1;exact DataW.trod_lt m _ _ _ hm
 obtain⟨x1,o1⟩:=open_entries (aaT 1 22 v1 rfl rfl) h1;clear hA0 Yv;refine(hashRoom_walk W a0 u0 v1 x1 o1).mono λe W' ⟨he,bel⟩=> ?_;subst he;exact⟨_,rfl,_,_,_,[],_,[],hW',trodAll_mk1 (shut_bool underlying4 _),(trodAll_cons_mk (shut_int underlying5 w0) (trodAll_cons_mk (Below.trod laidOut0 KJ (XQ KJ) h1 bel lt1) trodAll_mk0)),rfl,bel.frame _,λh=>zaY⟩
theorem hashRoom_holds:Rows.HashRoomSaid:=
 OpenClaim.holds_of_wide 3 Tryz.f3 rfl rfl rfl rfl rfl rfl rfl ⟨rfl,rfl,rfl,rfl,rfl⟩ rfl rfl rfl rfl rfl KJ func3 KJ
  (XQ KJ) (by unfold Func.isWrapper;first|(rw[Xo zaW];kernel_rfl)|(rw[Xd zaW];exact⟨rfl,rfl⟩))
  (λos started H enc _=>hashRoom_lifted os started H enc)
end
end Go.Proofs.YtjjomjobllcleaaGreat

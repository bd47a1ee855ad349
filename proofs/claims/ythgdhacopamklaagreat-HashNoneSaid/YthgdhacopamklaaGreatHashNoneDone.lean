/- HashNone holds: of no base all is ErrNil; where no hash stands, ErrHash. No conditions. -/
import Derived.Test.YthgdhacopamklaaGreatTBN
set_option maxHeartbeats 16000000
set_option maxRecDepth 100000
set_option linter.unusedVariables false
set_option linter.unusedSimpArgs false
namespace Go.Proofs.YthgdhacopamklaaGreat
open Go.Proofs.Tryz
section
open Go.ChangeShapes Go.WideShapes Go.ChangeAt Go.RowKit
theorem tx (os:Os) (started:os.Started) (H:Type) (enc:TypeId×Va→H):
  ReturnsInHanded {} Tryz.checked os 3 .any (Rows.hashNoneSpec.pre6 enc prog Tryz.f3 Rows.hashNoneRow.domain false) (Rows.hashNoneSpec.post enc prog Tryz.f3 false true false false):=by
 refine returnsInHanded_of_change (C:=Tryz.checked) Ri started (by kernel_rfl) func3
  (ChangeSpec.witness6 (enc:=enc) (C:=Tryz.checked) false ⟨#[],#[.int .u64 0,.int .u32 0],[]⟩ 8 (by kernel_rfl) (by kernel_rfl) (by kernel_rfl) (by kernel_rfl)) ?_
 intro W base args ds gs before Yv hW avQ _;have aaT:=Yv;have hW' :=hW;obtain⟨p,q,hA0,hV,rfl,hfz,im⟩:=hW;have hA:=hA0;rw[params3] at hA aaT;obtain⟨v0,vs0,d0,ds0,p0,q0,ar2,rfl,rfl,h0,r0⟩:=trodAll_cons hA;obtain⟨v1,vs1,d1,SY,p1,q1,rfl,rfl,rfl,h1,r1⟩:=trodAll_cons r0;obtain⟨rfl,rfl,rfl⟩:=trodAll_nil r1;obtain rfl:args= #[v0,v1]:=by cases args;simp_all
 obtain⟨rfl,rfl⟩:=trodVars_none hV;obtain⟨a0,rfl,rfl,rfl,w0⟩:=open_int underlying22 (aaT 0 22 v0 rfl rfl) h0;have u0:=ab5 w0;obtain⟨a1,rfl,rfl,rfl,w1⟩:=open_int underlying23 (aaT 1 23 v1 rfl rfl) h1;have u1:=ab6 w1;clear hA0 Yv;refine(xh W a0 u0 a1 u1).mono fun e W' ⟨he,bel⟩=> ?_
 subst he;exact⟨_,rfl,_,_,_,[],_,[],hW',trodAll_mk1 (shut_bool underlying4 _),(trodAll_cons_mk (shut_int underlying22 w0) (trodAll_cons_mk (shut_int underlying23 w1) trodAll_mk0)),rfl,bel.frame _,fun h=>by cases h⟩
theorem hashNone_holds:Rows.HashNoneSaid:=
 OpenClaim.holds_of_wide 3 Tryz.f3 rfl rfl rfl rfl rfl rfl rfl ⟨rfl,rfl,rfl,rfl,rfl⟩ rfl rfl rfl rfl rfl (by kernel_rfl) func3 (by kernel_rfl)
  (XQ (by kernel_rfl)) (by unfold Func.isWrapper;first|(rw[Xo (by decide+kernel)];kernel_rfl)|(rw[Xd (by decide+kernel)];exact⟨rfl,rfl⟩))
  (fun os started H enc _=>tx os started H enc)
end
end Go.Proofs.YthgdhacopamklaaGreat

/- What HashNone asks, part 39 of 41: parts of the walks and laws, each true as it stands. -/
import Derived.Below
import Derived.ChangeOld
import Derived.Deep.Slices
import Derived.OpenShut
import Derived.ProofKit
import Derived.ShutString
import Derived.Test.YthgdhacopamklaaGreatRows
import Derived.Test.YthgdhacopamklaaGreatTAA
set_option maxHeartbeats 16000000
set_option maxRecDepth 100000
set_option linter.unusedVariables false
set_option linter.unusedSimpArgs false
namespace Go.Proofs.YthgdhacopamklaaGreat
open Go.Proofs.Tryz
section
open Go.ChangeShapes Go.WideShapes Go.ChangeAt Go.RowKit
section
variable {α : Type} {w w' : Wo} {B size : Nat} {Φ : List Va → α → Prop} {v : Va} {xs : List α}
end
section
variable {H : Type} {enc : TypeId × Va → H} {P : Program} {w : Wo} {base : Nat} {spare : Nat → Bool} {held : Bool}
end
theorem Ri:ownKnob prog.godebug=none:=by kernel_rfl
theorem ab5 {n:Int} (h:(Lit.int .u64 n).wf=true):bI n:=by
 simp[Lit.wf,IntKind.min,IntKind.max,IntKind.signed,IntKind.bits] at h;unfold bI;omega
end
end Go.Proofs.YthgdhacopamklaaGreat

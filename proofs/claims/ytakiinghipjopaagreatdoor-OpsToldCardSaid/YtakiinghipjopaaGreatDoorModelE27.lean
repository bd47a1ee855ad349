/-
  The model's list of deeds.
-/
import Derived.Test.YtakiinghipjopaaGreatDoorModelV27
namespace Go.Proofs.YtakiinghipjopaaGreatDoor
open Go.RowKit
def deedL (b0 b1 b2 b3 b4 : Bool) (k : FuncId) : List Value := [.bool b0, .bool b1, .bool b2, .bool b3, .bool b4, .func (.func k) #[] #[]]
def deedCells : Array Value := (deedL false false false false true 83 ++ deedL true false false false false 85 ++ deedL true false false false true 86 ++ deedL true true false false false 88 ++
  deedL true true false true false 89 ++ deedL true true true false false 90 ++ deedL false false false false false 82 ++ deedL false false false false false 82 ++ deedL false false false false false 91).toArray
set_option maxRecDepth 100000 in
set_option maxHeartbeats 4000000 in
theorem deeds_any (w : World) :
    Calls Tryz.prog 55 #[] w fun e w' => e = .returned (.slice (some ⟨w.heap.size, 0, none⟩) 9 9) ∧ w' = w.alloc (.cells deedCells 100) := by
  go_enter Tryz.func55, Tryz.ntmps55
  go_wp2_with fail
  go_ret
  exact ⟨rfl, rfl⟩
end Go.Proofs.YtakiinghipjopaaGreatDoor

/-
  The model's deed that trims.
-/
import Derived.Test.YtakiinghipjopaaGreatDoorModelD27
import Derived.Maps.RangeWalk
import Derived.Maps.Ext
import Derived.Laws.IdiomRangeMap
import Derived.Deep.LoopGhost
namespace Go.Proofs.YtakiinghipjopaaGreatDoor
open Go.RowKit Go.Maps
set_option maxRecDepth 100000 in
set_option maxHeartbeats 4000000 in
theorem trim_says (w : World) (ob : Nat) (v a m : Int) (x0 x4 : Value) (hp : w.heap[ob]? = some (.cells #[x0, .int .u64 v, .int .u64 a, .int .u64 m, x4] 25 (0, 0))) (k : Int) (bs : List Int) (hl : bs.length = 128) :
    Calls Tryz.prog 122 #[.int .u64 k, .agg (bs.map (Value.int .u8)).toArray, .pointer (some ⟨ob, 0, none⟩)] w fun e w' => (∃ b, e = .returned (.bool b)) ∧ Below w.heap.size w w' := by
  have hcs : Option.map (fun i => (i.zero, i.size)) (Tryz.prog.info? 134) = some (some (.agg (Array.replicate 128 (.int .u8 0))), (bs.map (Value.int .u8)).toArray.size) := by
    have h0 : Option.map (fun i => (i.zero, i.size)) (Tryz.prog.info? 134) = some (some (.agg (Array.replicate 128 (.int .u8 0))), 128) := by kernel_rfl
    simp only [List.size_toArray, List.length_map, hl]
    exact h0
  have hb1 := bel1 w (.cells (bs.map (Value.int .u8)).toArray 134)
  have r1 := (hb1.block _ (Array.getElem?_eq_some_iff.1 hp).1).trans hp
  obtain ⟨c0, c1, c2, c3, c4⟩ := cells5 r1
  have HB := Lib.hid hb1
  clear hb1 r1 hp
  by_cases hx : a ≤ k
  all_goals
    go_enter Tryz.func122, Tryz.ntmps122
    go_wp2_with fail
    go_ret
    first | exact ⟨⟨_, rfl⟩, HB.out⟩ | exact ⟨.inl rfl, HB.out⟩ | exact ⟨.inr rfl, HB.out⟩
end Go.Proofs.YtakiinghipjopaaGreatDoor

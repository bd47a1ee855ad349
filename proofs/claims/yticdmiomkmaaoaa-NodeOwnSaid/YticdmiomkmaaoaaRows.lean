/-
  No cell of these rows narrows 'for every input' (looked for: loops, veiled, ifaces, maps, wideKeys, modest, calm, conditions, laid).
  DERIVED. THE GIVEN ROWS OF THIS SEAT. 11 by the template 'for every input the law returns true; each argument reads behind the call as it read before'; 0 by the template 'total and deterministic' (their statements: YticdmiomkmaaoaaTotals.lean).
  GIVEN WITH THE SEED: the statements are not yours to turn. If you find one false, say at which input.
  Laid BY PROGRAM, IN A SANDBOX (cutbox-rows.mjs): the forced cells as the released guide's own fill.sh prints them over the translation 629198e891881920… (all of the seat's roots in one cut). By AI agents, Wed Nov 11 2026. No macro, syntax, notation, axiom, sorry.
-/
import Derived.Test.YticdmiomkmaaoaaChecked
import GoSem.Claim
import GoSem.ClaimJoined
import GoSem.ClaimMapViews
import Derived.JoinedTies
import Derived.KernelRfl
namespace Go.Proofs.Yticdmiomkmaaoaa
/- THE CELL 'sum', in the pinned program and in every row, IS THE sha256 OF THE DUMP (.gsa) THAT YticdmiomkmaaoaaProg.lean LOADS. Nothing in Lean hashes anything: it is a label: what it is worth is what the hold of that sum in a sandbox is worth. -/
noncomputable def Try.pinned : Pinned := { name := "yticdmiomkmaaoaa", sum := "629198e89188192051de3efa8abd9933b637b7dfd23a33e805966d0c0dd32732", checked := Try.checked }
namespace Rows
def none {H : Type} : Left H := { results := [], args := [] }

/-- 'catchmentlaw07.TableTells': WHATEVER THE INPUT: true; the input reads as it did. -/
def tableTellsSpec : ChangeSpec := { name := "tableTells", fn := fun _ => fun
  | [d1, d2, d3] => { results := [.lit (.bool true)], args := [d1, d2, d3] }
  | _ => none }
def tableTellsRow : OpenClaim := { program := "yticdmiomkmaaoaa", sum := "629198e89188192051de3efa8abd9933b637b7dfd23a33e805966d0c0dd32732", func := "catchment/catchmentlaw07.TableTells", spec := "tableTells", plainKeys := false, apart := false }
def TableTellsSaid : Prop := tableTellsRow.holds Try.pinned (OpenSpec.ofChange tableTellsSpec)

/-- ITS FALSE NEIGHBOUR: 'it returns false'. Refute it at one input. -/
def tableTellsWrong : ChangeSpec := { name := "tableTells", fn := fun _ => fun
  | [d1, d2, d3] => { results := [.lit (.bool false)], args := [d1, d2, d3] }
  | _ => none }
def TableTellsWrongFalsely : Prop := tableTellsRow.holds Try.pinned (OpenSpec.ofChange tableTellsWrong)

/-- 'catchmentlaw07.TableOrder': WHATEVER THE INPUT: true; the input reads as it did. -/
def tableOrderSpec : ChangeSpec := { name := "tableOrder", fn := fun _ => fun
  | [d1, d2, d3] => { results := [.lit (.bool true)], args := [d1, d2, d3] }
  | _ => none }
def tableOrderRow : OpenClaim := { program := "yticdmiomkmaaoaa", sum := "629198e89188192051de3efa8abd9933b637b7dfd23a33e805966d0c0dd32732", func := "catchment/catchmentlaw07.TableOrder", spec := "tableOrder", plainKeys := false, apart := false }
def TableOrderSaid : Prop := tableOrderRow.holds Try.pinned (OpenSpec.ofChange tableOrderSpec)

/-- ITS FALSE NEIGHBOUR: 'it returns false'. Refute it at one input. -/
def tableOrderWrong : ChangeSpec := { name := "tableOrder", fn := fun _ => fun
  | [d1, d2, d3] => { results := [.lit (.bool false)], args := [d1, d2, d3] }
  | _ => none }
def TableOrderWrongFalsely : Prop := tableOrderRow.holds Try.pinned (OpenSpec.ofChange tableOrderWrong)

/-- 'catchmentlaw07.TableUnlike': WHATEVER THE INPUT: true; the input reads as it did. -/
def tableUnlikeSpec : ChangeSpec := { name := "tableUnlike", fn := fun _ => fun
  | [d1, d2, d3] => { results := [.lit (.bool true)], args := [d1, d2, d3] }
  | _ => none }
def tableUnlikeRow : OpenClaim := { program := "yticdmiomkmaaoaa", sum := "629198e89188192051de3efa8abd9933b637b7dfd23a33e805966d0c0dd32732", func := "catchment/catchmentlaw07.TableUnlike", spec := "tableUnlike", plainKeys := false, apart := false }
def TableUnlikeSaid : Prop := tableUnlikeRow.holds Try.pinned (OpenSpec.ofChange tableUnlikeSpec)

/-- ITS FALSE NEIGHBOUR: 'it returns false'. Refute it at one input. -/
def tableUnlikeWrong : ChangeSpec := { name := "tableUnlike", fn := fun _ => fun
  | [d1, d2, d3] => { results := [.lit (.bool false)], args := [d1, d2, d3] }
  | _ => none }
def TableUnlikeWrongFalsely : Prop := tableUnlikeRow.holds Try.pinned (OpenSpec.ofChange tableUnlikeWrong)

/-- 'catchmentlaw07.TableRest': WHATEVER THE INPUT: true; the input reads as it did. -/
def tableRestSpec : ChangeSpec := { name := "tableRest", fn := fun _ => fun
  | [d1, d2, d3] => { results := [.lit (.bool true)], args := [d1, d2, d3] }
  | _ => none }
def tableRestRow : OpenClaim := { program := "yticdmiomkmaaoaa", sum := "629198e89188192051de3efa8abd9933b637b7dfd23a33e805966d0c0dd32732", func := "catchment/catchmentlaw07.TableRest", spec := "tableRest", plainKeys := false, apart := false }
def TableRestSaid : Prop := tableRestRow.holds Try.pinned (OpenSpec.ofChange tableRestSpec)

/-- ITS FALSE NEIGHBOUR: 'it returns false'. Refute it at one input. -/
def tableRestWrong : ChangeSpec := { name := "tableRest", fn := fun _ => fun
  | [d1, d2, d3] => { results := [.lit (.bool false)], args := [d1, d2, d3] }
  | _ => none }
def TableRestWrongFalsely : Prop := tableRestRow.holds Try.pinned (OpenSpec.ofChange tableRestWrong)

/-- 'catchmentlaw07.TableLimits': WHATEVER THE INPUT: true; the input reads as it did. -/
def tableLimitsSpec : ChangeSpec := { name := "tableLimits", fn := fun _ => fun
  | [d1, d2] => { results := [.lit (.bool true)], args := [d1, d2] }
  | _ => none }
def tableLimitsRow : OpenClaim := { program := "yticdmiomkmaaoaa", sum := "629198e89188192051de3efa8abd9933b637b7dfd23a33e805966d0c0dd32732", func := "catchment/catchmentlaw07.TableLimits", spec := "tableLimits", plainKeys := false, apart := false }
def TableLimitsSaid : Prop := tableLimitsRow.holds Try.pinned (OpenSpec.ofChange tableLimitsSpec)

/-- ITS FALSE NEIGHBOUR: 'it returns false'. Refute it at one input. -/
def tableLimitsWrong : ChangeSpec := { name := "tableLimits", fn := fun _ => fun
  | [d1, d2] => { results := [.lit (.bool false)], args := [d1, d2] }
  | _ => none }
def TableLimitsWrongFalsely : Prop := tableLimitsRow.holds Try.pinned (OpenSpec.ofChange tableLimitsWrong)

/-- 'catchmentlaw12.NodeTells': WHATEVER THE INPUT: true; the input reads as it did. -/
def nodeTellsSpec : ChangeSpec := { name := "nodeTells", fn := fun _ => fun
  | [d1, d2, d3, d4] => { results := [.lit (.bool true)], args := [d1, d2, d3, d4] }
  | _ => none }
def nodeTellsRow : OpenClaim := { program := "yticdmiomkmaaoaa", sum := "629198e89188192051de3efa8abd9933b637b7dfd23a33e805966d0c0dd32732", func := "catchment/catchmentlaw12.NodeTells", spec := "nodeTells", inPlace := ["slices.overlaps[uint64]"], plainKeys := false, apart := false }
def NodeTellsSaid : Prop := nodeTellsRow.holds Try.pinned (OpenSpec.ofChange nodeTellsSpec)

/-- ITS FALSE NEIGHBOUR: 'it returns false'. Refute it at one input. -/
def nodeTellsWrong : ChangeSpec := { name := "nodeTells", fn := fun _ => fun
  | [d1, d2, d3, d4] => { results := [.lit (.bool false)], args := [d1, d2, d3, d4] }
  | _ => none }
def NodeTellsWrongFalsely : Prop := nodeTellsRow.holds Try.pinned (OpenSpec.ofChange nodeTellsWrong)

/-- 'catchmentlaw12.NodePut': WHATEVER THE INPUT: true; the input reads as it did. -/
def nodePutSpec : ChangeSpec := { name := "nodePut", fn := fun _ => fun
  | [d1, d2, d3] => { results := [.lit (.bool true)], args := [d1, d2, d3] }
  | _ => none }
def nodePutRow : OpenClaim := { program := "yticdmiomkmaaoaa", sum := "629198e89188192051de3efa8abd9933b637b7dfd23a33e805966d0c0dd32732", func := "catchment/catchmentlaw12.NodePut", spec := "nodePut", inPlace := ["slices.overlaps[uint64]"], plainKeys := false, apart := false }
def NodePutSaid : Prop := nodePutRow.holds Try.pinned (OpenSpec.ofChange nodePutSpec)

/-- ITS FALSE NEIGHBOUR: 'it returns false'. Refute it at one input. -/
def nodePutWrong : ChangeSpec := { name := "nodePut", fn := fun _ => fun
  | [d1, d2, d3] => { results := [.lit (.bool false)], args := [d1, d2, d3] }
  | _ => none }
def NodePutWrongFalsely : Prop := nodePutRow.holds Try.pinned (OpenSpec.ofChange nodePutWrong)

/-- 'catchmentlaw12.NodeHalves': WHATEVER THE INPUT: true; the input reads as it did. -/
def nodeHalvesSpec : ChangeSpec := { name := "nodeHalves", fn := fun _ => fun
  | [d1, d2] => { results := [.lit (.bool true)], args := [d1, d2] }
  | _ => none }
def nodeHalvesRow : OpenClaim := { program := "yticdmiomkmaaoaa", sum := "629198e89188192051de3efa8abd9933b637b7dfd23a33e805966d0c0dd32732", func := "catchment/catchmentlaw12.NodeHalves", spec := "nodeHalves", inPlace := ["slices.overlaps[uint64]"], plainKeys := false, apart := false }
def NodeHalvesSaid : Prop := nodeHalvesRow.holds Try.pinned (OpenSpec.ofChange nodeHalvesSpec)

/-- ITS FALSE NEIGHBOUR: 'it returns false'. Refute it at one input. -/
def nodeHalvesWrong : ChangeSpec := { name := "nodeHalves", fn := fun _ => fun
  | [d1, d2] => { results := [.lit (.bool false)], args := [d1, d2] }
  | _ => none }
def NodeHalvesWrongFalsely : Prop := nodeHalvesRow.holds Try.pinned (OpenSpec.ofChange nodeHalvesWrong)

/-- 'catchmentlaw12.NodeJoin': WHATEVER THE INPUT: true; the input reads as it did. -/
def nodeJoinSpec : ChangeSpec := { name := "nodeJoin", fn := fun _ => fun
  | [d1, d2] => { results := [.lit (.bool true)], args := [d1, d2] }
  | _ => none }
def nodeJoinRow : OpenClaim := { program := "yticdmiomkmaaoaa", sum := "629198e89188192051de3efa8abd9933b637b7dfd23a33e805966d0c0dd32732", func := "catchment/catchmentlaw12.NodeJoin", spec := "nodeJoin", inPlace := ["slices.overlaps[uint64]"], plainKeys := false, apart := false }
def NodeJoinSaid : Prop := nodeJoinRow.holds Try.pinned (OpenSpec.ofChange nodeJoinSpec)

/-- ITS FALSE NEIGHBOUR: 'it returns false'. Refute it at one input. -/
def nodeJoinWrong : ChangeSpec := { name := "nodeJoin", fn := fun _ => fun
  | [d1, d2] => { results := [.lit (.bool false)], args := [d1, d2] }
  | _ => none }
def NodeJoinWrongFalsely : Prop := nodeJoinRow.holds Try.pinned (OpenSpec.ofChange nodeJoinWrong)

/-- 'catchmentlaw12.NodeCut': WHATEVER THE INPUT: true; the input reads as it did. -/
def nodeCutSpec : ChangeSpec := { name := "nodeCut", fn := fun _ => fun
  | [d1, d2, d3, d4] => { results := [.lit (.bool true)], args := [d1, d2, d3, d4] }
  | _ => none }
def nodeCutRow : OpenClaim := { program := "yticdmiomkmaaoaa", sum := "629198e89188192051de3efa8abd9933b637b7dfd23a33e805966d0c0dd32732", func := "catchment/catchmentlaw12.NodeCut", spec := "nodeCut", inPlace := ["slices.overlaps[uint64]"], plainKeys := false, apart := false }
def NodeCutSaid : Prop := nodeCutRow.holds Try.pinned (OpenSpec.ofChange nodeCutSpec)

/-- ITS FALSE NEIGHBOUR: 'it returns false'. Refute it at one input. -/
def nodeCutWrong : ChangeSpec := { name := "nodeCut", fn := fun _ => fun
  | [d1, d2, d3, d4] => { results := [.lit (.bool false)], args := [d1, d2, d3, d4] }
  | _ => none }
def NodeCutWrongFalsely : Prop := nodeCutRow.holds Try.pinned (OpenSpec.ofChange nodeCutWrong)

/-- 'catchmentlaw12.NodeOwn': WHATEVER THE INPUT: true; the input reads as it did. -/
def nodeOwnSpec : ChangeSpec := { name := "nodeOwn", fn := fun _ => fun
  | [d1, d2, d3] => { results := [.lit (.bool true)], args := [d1, d2, d3] }
  | _ => none }
def nodeOwnRow : OpenClaim := { program := "yticdmiomkmaaoaa", sum := "629198e89188192051de3efa8abd9933b637b7dfd23a33e805966d0c0dd32732", func := "catchment/catchmentlaw12.NodeOwn", spec := "nodeOwn", inPlace := ["slices.overlaps[uint64]"], plainKeys := false, apart := false }
def NodeOwnSaid : Prop := nodeOwnRow.holds Try.pinned (OpenSpec.ofChange nodeOwnSpec)

/-- ITS FALSE NEIGHBOUR: 'it returns false'. Refute it at one input. -/
def nodeOwnWrong : ChangeSpec := { name := "nodeOwn", fn := fun _ => fun
  | [d1, d2, d3] => { results := [.lit (.bool false)], args := [d1, d2, d3] }
  | _ => none }
def NodeOwnWrongFalsely : Prop := nodeOwnRow.holds Try.pinned (OpenSpec.ofChange nodeOwnWrong)

/- THE SECOND FORM. 'bulk': how many values and letters a reading holds, each counted each time it is reached (what is shared counts as often as it is met; a slice's spare places count too). A statement '..UptoSaid' is the law's where the arguments, and the package variables that the reading takes, are together of bulk at most 1048576: NARROWER than '..Said'. Prove '..Said' where nothing that the law and all that it calls make is longer than what came in: it says more and counts as full. Else prove '..UptoSaid'. A law counts once. -/
mutual
def uptoBulk {H : Type} : DataW H → Nat
  | .lit (.string bytes) => bytes.length + 1
  | .lit _ => 1
  | .nil => 1
  | .ptr d => uptoBulk d + 1
  | .slice elems spare => uptoBulkAll elems + uptoBulkAll spare + 1
  | .agg parts => uptoBulkAll parts + 1
  | .iface _ d => uptoBulk d + 1
  | .map entries => uptoBulkEntries entries + 1
  | .held _ => 1
def uptoBulkAll {H : Type} : List (DataW H) → Nat
  | [] => 0
  | d :: r => uptoBulk d + uptoBulkAll r
def uptoBulkEntries {H : Type} : List (Lit × DataW H) → Nat
  | [] => 0
  | x :: r => uptoBulkEntry x + uptoBulkEntries r
def uptoBulkEntry {H : Type} : Lit × DataW H → Nat
  | (.string bytes, d) => bytes.length + uptoBulk d + 1
  | (_, d) => uptoBulk d + 1
 end
def uptoSmall : (H : Type) → List (DataW H) → Bool := fun _ ds => decide (uptoBulkAll ds ≤ 1048576)
def OpenSpec.upto (s : _root_.Go.ChangeSpec) : _root_.Go.OpenSpec := { _root_.Go.OpenSpec.ofChange s with cond := some uptoSmall }

/-- 'catchmentlaw07.TableTells', WHERE WHAT IT READS IS OF BULK AT MOST 1048576: true; the input reads as it did. -/
def tableTellsUptoRow : OpenClaim := { program := "yticdmiomkmaaoaa", sum := "629198e89188192051de3efa8abd9933b637b7dfd23a33e805966d0c0dd32732", func := "catchment/catchmentlaw07.TableTells", spec := "tableTells", plainKeys := false, apart := false, narrowed := true }
def TableTellsUptoSaid : Prop := tableTellsUptoRow.holds Try.pinned (OpenSpec.upto tableTellsSpec)

/-- 'catchmentlaw07.TableOrder', WHERE WHAT IT READS IS OF BULK AT MOST 1048576: true; the input reads as it did. -/
def tableOrderUptoRow : OpenClaim := { program := "yticdmiomkmaaoaa", sum := "629198e89188192051de3efa8abd9933b637b7dfd23a33e805966d0c0dd32732", func := "catchment/catchmentlaw07.TableOrder", spec := "tableOrder", plainKeys := false, apart := false, narrowed := true }
def TableOrderUptoSaid : Prop := tableOrderUptoRow.holds Try.pinned (OpenSpec.upto tableOrderSpec)

/-- 'catchmentlaw07.TableUnlike', WHERE WHAT IT READS IS OF BULK AT MOST 1048576: true; the input reads as it did. -/
def tableUnlikeUptoRow : OpenClaim := { program := "yticdmiomkmaaoaa", sum := "629198e89188192051de3efa8abd9933b637b7dfd23a33e805966d0c0dd32732", func := "catchment/catchmentlaw07.TableUnlike", spec := "tableUnlike", plainKeys := false, apart := false, narrowed := true }
def TableUnlikeUptoSaid : Prop := tableUnlikeUptoRow.holds Try.pinned (OpenSpec.upto tableUnlikeSpec)

/-- 'catchmentlaw07.TableRest', WHERE WHAT IT READS IS OF BULK AT MOST 1048576: true; the input reads as it did. -/
def tableRestUptoRow : OpenClaim := { program := "yticdmiomkmaaoaa", sum := "629198e89188192051de3efa8abd9933b637b7dfd23a33e805966d0c0dd32732", func := "catchment/catchmentlaw07.TableRest", spec := "tableRest", plainKeys := false, apart := false, narrowed := true }
def TableRestUptoSaid : Prop := tableRestUptoRow.holds Try.pinned (OpenSpec.upto tableRestSpec)

/-- 'catchmentlaw07.TableLimits', WHERE WHAT IT READS IS OF BULK AT MOST 1048576: true; the input reads as it did. -/
def tableLimitsUptoRow : OpenClaim := { program := "yticdmiomkmaaoaa", sum := "629198e89188192051de3efa8abd9933b637b7dfd23a33e805966d0c0dd32732", func := "catchment/catchmentlaw07.TableLimits", spec := "tableLimits", plainKeys := false, apart := false, narrowed := true }
def TableLimitsUptoSaid : Prop := tableLimitsUptoRow.holds Try.pinned (OpenSpec.upto tableLimitsSpec)

/-- 'catchmentlaw12.NodeTells', WHERE WHAT IT READS IS OF BULK AT MOST 1048576: true; the input reads as it did. -/
def nodeTellsUptoRow : OpenClaim := { program := "yticdmiomkmaaoaa", sum := "629198e89188192051de3efa8abd9933b637b7dfd23a33e805966d0c0dd32732", func := "catchment/catchmentlaw12.NodeTells", spec := "nodeTells", inPlace := ["slices.overlaps[uint64]"], plainKeys := false, apart := false, narrowed := true }
def NodeTellsUptoSaid : Prop := nodeTellsUptoRow.holds Try.pinned (OpenSpec.upto nodeTellsSpec)

/-- 'catchmentlaw12.NodePut', WHERE WHAT IT READS IS OF BULK AT MOST 1048576: true; the input reads as it did. -/
def nodePutUptoRow : OpenClaim := { program := "yticdmiomkmaaoaa", sum := "629198e89188192051de3efa8abd9933b637b7dfd23a33e805966d0c0dd32732", func := "catchment/catchmentlaw12.NodePut", spec := "nodePut", inPlace := ["slices.overlaps[uint64]"], plainKeys := false, apart := false, narrowed := true }
def NodePutUptoSaid : Prop := nodePutUptoRow.holds Try.pinned (OpenSpec.upto nodePutSpec)

/-- 'catchmentlaw12.NodeHalves', WHERE WHAT IT READS IS OF BULK AT MOST 1048576: true; the input reads as it did. -/
def nodeHalvesUptoRow : OpenClaim := { program := "yticdmiomkmaaoaa", sum := "629198e89188192051de3efa8abd9933b637b7dfd23a33e805966d0c0dd32732", func := "catchment/catchmentlaw12.NodeHalves", spec := "nodeHalves", inPlace := ["slices.overlaps[uint64]"], plainKeys := false, apart := false, narrowed := true }
def NodeHalvesUptoSaid : Prop := nodeHalvesUptoRow.holds Try.pinned (OpenSpec.upto nodeHalvesSpec)

/-- 'catchmentlaw12.NodeJoin', WHERE WHAT IT READS IS OF BULK AT MOST 1048576: true; the input reads as it did. -/
def nodeJoinUptoRow : OpenClaim := { program := "yticdmiomkmaaoaa", sum := "629198e89188192051de3efa8abd9933b637b7dfd23a33e805966d0c0dd32732", func := "catchment/catchmentlaw12.NodeJoin", spec := "nodeJoin", inPlace := ["slices.overlaps[uint64]"], plainKeys := false, apart := false, narrowed := true }
def NodeJoinUptoSaid : Prop := nodeJoinUptoRow.holds Try.pinned (OpenSpec.upto nodeJoinSpec)

/-- 'catchmentlaw12.NodeCut', WHERE WHAT IT READS IS OF BULK AT MOST 1048576: true; the input reads as it did. -/
def nodeCutUptoRow : OpenClaim := { program := "yticdmiomkmaaoaa", sum := "629198e89188192051de3efa8abd9933b637b7dfd23a33e805966d0c0dd32732", func := "catchment/catchmentlaw12.NodeCut", spec := "nodeCut", inPlace := ["slices.overlaps[uint64]"], plainKeys := false, apart := false, narrowed := true }
def NodeCutUptoSaid : Prop := nodeCutUptoRow.holds Try.pinned (OpenSpec.upto nodeCutSpec)

/-- 'catchmentlaw12.NodeOwn', WHERE WHAT IT READS IS OF BULK AT MOST 1048576: true; the input reads as it did. -/
def nodeOwnUptoRow : OpenClaim := { program := "yticdmiomkmaaoaa", sum := "629198e89188192051de3efa8abd9933b637b7dfd23a33e805966d0c0dd32732", func := "catchment/catchmentlaw12.NodeOwn", spec := "nodeOwn", inPlace := ["slices.overlaps[uint64]"], plainKeys := false, apart := false, narrowed := true }
def NodeOwnUptoSaid : Prop := nodeOwnUptoRow.holds Try.pinned (OpenSpec.upto nodeOwnSpec)

end Rows
end Go.Proofs.Yticdmiomkmaaoaa

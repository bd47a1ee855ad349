/-
  No cell of these rows narrows 'for every input' (looked for: loops, veiled, ifaces, maps, wideKeys, modest, calm, conditions, laid).
  DERIVED. THE GIVEN ROWS OF THIS SEAT. 7 by the template 'for every input the law returns true; each argument reads behind the call as it read before'; 0 by the template 'total and deterministic' (their statements: YthgdhacopamklaaGreatTotals.lean).
  GIVEN WITH THE SEED: the statements are not yours to turn. If you find one false, say at which input.
  Laid BY PROGRAM, IN A SANDBOX (cutbox-rows.mjs): the forced cells as the released guide's own fill.sh prints them over the translation 880c709f39c43ae7… (all of the seat's roots in one cut). By AI agents, Wed Nov 11 2026. No macro, syntax, notation, axiom, sorry.
-/
import Derived.Test.YthgdhacopamklaaGreatChecked
import GoSem.Claim
import GoSem.ClaimJoined
import GoSem.ClaimMapViews
import Derived.JoinedTies
import Derived.KernelRfl
namespace Go.Proofs.YthgdhacopamklaaGreat
/- THE CELL 'sum', in the pinned program and in every row, IS THE sha256 OF THE DUMP (.gsa) THAT YthgdhacopamklaaGreatProg.lean LOADS. Nothing in Lean hashes anything: it is a label: what it is worth is what the hold of that sum in a sandbox is worth. -/
noncomputable def Tryz.pinned : Pinned := { name := "ythgdhacopamklaagreat", sum := "880c709f39c43ae79c29f7f25fc90975be789446c36439c0c178956358e7a4d0", checked := Tryz.checked }
namespace Rows
def none {H : Type} : Left H := { results := [], args := [] }

/-- 'catchmentlaw18.HashNone': WHATEVER THE INPUT: true; the input reads as it did. -/
def hashNoneSpec : ChangeSpec := { name := "hashNone", fn := fun _ => fun
  | [d1, d2] => { results := [.lit (.bool true)], args := [d1, d2] }
  | _ => none }
def hashNoneRow : OpenClaim := { program := "ythgdhacopamklaagreat", sum := "880c709f39c43ae79c29f7f25fc90975be789446c36439c0c178956358e7a4d0", func := "catchment/catchmentlaw18.HashNone", spec := "hashNone", inPlace := ["slices.overlaps[catchment/api.Entry]"], unfollowed := true, recurses := true, plainKeys := false, apart := false }
def HashNoneSaid : Prop := hashNoneRow.holds Tryz.pinned (OpenSpec.ofChange hashNoneSpec)

/-- ITS FALSE NEIGHBOUR: 'it returns false'. Refute it at one input. -/
def hashNoneWrong : ChangeSpec := { name := "hashNone", fn := fun _ => fun
  | [d1, d2] => { results := [.lit (.bool false)], args := [d1, d2] }
  | _ => none }
def HashNoneWrongFalsely : Prop := hashNoneRow.holds Tryz.pinned (OpenSpec.ofChange hashNoneWrong)

/-- 'catchmentlaw18.HashTells': WHATEVER THE INPUT: true; the input reads as it did. -/
def hashTellsSpec : ChangeSpec := { name := "hashTells", fn := fun _ => fun
  | [d1, d2] => { results := [.lit (.bool true)], args := [d1, d2] }
  | _ => none }
def hashTellsRow : OpenClaim := { program := "ythgdhacopamklaagreat", sum := "880c709f39c43ae79c29f7f25fc90975be789446c36439c0c178956358e7a4d0", func := "catchment/catchmentlaw18.HashTells", spec := "hashTells", inPlace := ["slices.overlaps[catchment/api.Entry]"], unfollowed := true, recurses := true, plainKeys := false, apart := false }
def HashTellsSaid : Prop := hashTellsRow.holds Tryz.pinned (OpenSpec.ofChange hashTellsSpec)

/-- ITS FALSE NEIGHBOUR: 'it returns false'. Refute it at one input. -/
def hashTellsWrong : ChangeSpec := { name := "hashTells", fn := fun _ => fun
  | [d1, d2] => { results := [.lit (.bool false)], args := [d1, d2] }
  | _ => none }
def HashTellsWrongFalsely : Prop := hashTellsRow.holds Tryz.pinned (OpenSpec.ofChange hashTellsWrong)

/-- 'catchmentlaw18.HashFinds': WHATEVER THE INPUT: true; the input reads as it did. -/
def hashFindsSpec : ChangeSpec := { name := "hashFinds", fn := fun _ => fun
  | [d1, d2, d3] => { results := [.lit (.bool true)], args := [d1, d2, d3] }
  | _ => none }
def hashFindsRow : OpenClaim := { program := "ythgdhacopamklaagreat", sum := "880c709f39c43ae79c29f7f25fc90975be789446c36439c0c178956358e7a4d0", func := "catchment/catchmentlaw18.HashFinds", spec := "hashFinds", inPlace := ["slices.overlaps[catchment/api.Entry]"], unfollowed := true, recurses := true, plainKeys := false, apart := false }
def HashFindsSaid : Prop := hashFindsRow.holds Tryz.pinned (OpenSpec.ofChange hashFindsSpec)

/-- ITS FALSE NEIGHBOUR: 'it returns false'. Refute it at one input. -/
def hashFindsWrong : ChangeSpec := { name := "hashFinds", fn := fun _ => fun
  | [d1, d2, d3] => { results := [.lit (.bool false)], args := [d1, d2, d3] }
  | _ => none }
def HashFindsWrongFalsely : Prop := hashFindsRow.holds Tryz.pinned (OpenSpec.ofChange hashFindsWrong)

/-- 'catchmentlaw18.HashPages': WHATEVER THE INPUT: true; the input reads as it did. -/
def hashPagesSpec : ChangeSpec := { name := "hashPages", fn := fun _ => fun
  | [d1, d2] => { results := [.lit (.bool true)], args := [d1, d2] }
  | _ => none }
def hashPagesRow : OpenClaim := { program := "ythgdhacopamklaagreat", sum := "880c709f39c43ae79c29f7f25fc90975be789446c36439c0c178956358e7a4d0", func := "catchment/catchmentlaw18.HashPages", spec := "hashPages", inPlace := ["slices.overlaps[catchment/api.Entry]"], unfollowed := true, recurses := true, plainKeys := false, apart := false }
def HashPagesSaid : Prop := hashPagesRow.holds Tryz.pinned (OpenSpec.ofChange hashPagesSpec)

/-- ITS FALSE NEIGHBOUR: 'it returns false'. Refute it at one input. -/
def hashPagesWrong : ChangeSpec := { name := "hashPages", fn := fun _ => fun
  | [d1, d2] => { results := [.lit (.bool false)], args := [d1, d2] }
  | _ => none }
def HashPagesWrongFalsely : Prop := hashPagesRow.holds Tryz.pinned (OpenSpec.ofChange hashPagesWrong)

/-- 'catchmentlaw18.HashSwap': WHATEVER THE INPUT: true; the input reads as it did. -/
def hashSwapSpec : ChangeSpec := { name := "hashSwap", fn := fun _ => fun
  | [d1, d2] => { results := [.lit (.bool true)], args := [d1, d2] }
  | _ => none }
def hashSwapRow : OpenClaim := { program := "ythgdhacopamklaagreat", sum := "880c709f39c43ae79c29f7f25fc90975be789446c36439c0c178956358e7a4d0", func := "catchment/catchmentlaw18.HashSwap", spec := "hashSwap", inPlace := ["slices.overlaps[catchment/api.Entry]"], unfollowed := true, recurses := true, plainKeys := false, apart := false }
def HashSwapSaid : Prop := hashSwapRow.holds Tryz.pinned (OpenSpec.ofChange hashSwapSpec)

/-- ITS FALSE NEIGHBOUR: 'it returns false'. Refute it at one input. -/
def hashSwapWrong : ChangeSpec := { name := "hashSwap", fn := fun _ => fun
  | [d1, d2] => { results := [.lit (.bool false)], args := [d1, d2] }
  | _ => none }
def HashSwapWrongFalsely : Prop := hashSwapRow.holds Tryz.pinned (OpenSpec.ofChange hashSwapWrong)

/-- 'catchmentlaw18.HashRoom': WHATEVER THE INPUT: true; the input reads as it did. -/
def hashRoomSpec : ChangeSpec := { name := "hashRoom", fn := fun _ => fun
  | [d1, d2] => { results := [.lit (.bool true)], args := [d1, d2] }
  | _ => none }
def hashRoomRow : OpenClaim := { program := "ythgdhacopamklaagreat", sum := "880c709f39c43ae79c29f7f25fc90975be789446c36439c0c178956358e7a4d0", func := "catchment/catchmentlaw18.HashRoom", spec := "hashRoom", inPlace := ["slices.overlaps[catchment/api.Entry]"], unfollowed := true, recurses := true, plainKeys := false, apart := false }
def HashRoomSaid : Prop := hashRoomRow.holds Tryz.pinned (OpenSpec.ofChange hashRoomSpec)

/-- ITS FALSE NEIGHBOUR: 'it returns false'. Refute it at one input. -/
def hashRoomWrong : ChangeSpec := { name := "hashRoom", fn := fun _ => fun
  | [d1, d2] => { results := [.lit (.bool false)], args := [d1, d2] }
  | _ => none }
def HashRoomWrongFalsely : Prop := hashRoomRow.holds Tryz.pinned (OpenSpec.ofChange hashRoomWrong)

/-- 'catchmentlaw18.HashKept': WHATEVER THE INPUT: true; the input reads as it did. -/
def hashKeptSpec : ChangeSpec := { name := "hashKept", fn := fun _ => fun
  | [d1, d2, d3] => { results := [.lit (.bool true)], args := [d1, d2, d3] }
  | _ => none }
def hashKeptRow : OpenClaim := { program := "ythgdhacopamklaagreat", sum := "880c709f39c43ae79c29f7f25fc90975be789446c36439c0c178956358e7a4d0", func := "catchment/catchmentlaw18.HashKept", spec := "hashKept", inPlace := ["slices.overlaps[catchment/api.Entry]"], unfollowed := true, recurses := true, plainKeys := false, apart := false }
def HashKeptSaid : Prop := hashKeptRow.holds Tryz.pinned (OpenSpec.ofChange hashKeptSpec)

/-- ITS FALSE NEIGHBOUR: 'it returns false'. Refute it at one input. -/
def hashKeptWrong : ChangeSpec := { name := "hashKept", fn := fun _ => fun
  | [d1, d2, d3] => { results := [.lit (.bool false)], args := [d1, d2, d3] }
  | _ => none }
def HashKeptWrongFalsely : Prop := hashKeptRow.holds Tryz.pinned (OpenSpec.ofChange hashKeptWrong)

/- THE SECOND FORM. 'bulk': how many values and letters a reading holds, each counted each time it is reached (what is shared counts as often as it is met; a slice's spare places count too). A statement '..UptoSaid' is the law's where the arguments, and the package variables that the reading takes, are together of bulk at most 1048576: NARROWER than '..Said'. Prove '..Said' where nothing that the law and all that it calls make is longer than what came in: it says more and counts as full. Else prove '..UptoSaid'. A law counts once. -/
mutual
def uptoBulk {H : Type} : DataW H → Nat
  | .lit (.string bytes) => bytes.length + 1
  | .lit _ => 1
  | .nil => 1
  | .ptr d => uptoBulk d + 1
  | .slice elems spare => uptoBulkAll elems + uptoBulkAll spare + 1
  | .agg parts => uptoBulkAll parts + 1
  | .iface _ d => uptoBulk d + 1
  | .map entries => uptoBulkEntries entries + 1
  | .held _ => 1
def uptoBulkAll {H : Type} : List (DataW H) → Nat
  | [] => 0
  | d :: r => uptoBulk d + uptoBulkAll r
def uptoBulkEntries {H : Type} : List (Lit × DataW H) → Nat
  | [] => 0
  | x :: r => uptoBulkEntry x + uptoBulkEntries r
def uptoBulkEntry {H : Type} : Lit × DataW H → Nat
  | (.string bytes, d) => bytes.length + uptoBulk d + 1
  | (_, d) => uptoBulk d + 1
 end
def uptoSmall : (H : Type) → List (DataW H) → Bool := fun _ ds => decide (uptoBulkAll ds ≤ 1048576)
def OpenSpec.upto (s : _root_.Go.ChangeSpec) : _root_.Go.OpenSpec := { _root_.Go.OpenSpec.ofChange s with cond := some uptoSmall }

/-- 'catchmentlaw18.HashNone', WHERE WHAT IT READS IS OF BULK AT MOST 1048576: true; the input reads as it did. -/
def hashNoneUptoRow : OpenClaim := { program := "ythgdhacopamklaagreat", sum := "880c709f39c43ae79c29f7f25fc90975be789446c36439c0c178956358e7a4d0", func := "catchment/catchmentlaw18.HashNone", spec := "hashNone", inPlace := ["slices.overlaps[catchment/api.Entry]"], unfollowed := true, recurses := true, plainKeys := false, apart := false, narrowed := true }
def HashNoneUptoSaid : Prop := hashNoneUptoRow.holds Tryz.pinned (OpenSpec.upto hashNoneSpec)

/-- 'catchmentlaw18.HashTells', WHERE WHAT IT READS IS OF BULK AT MOST 1048576: true; the input reads as it did. -/
def hashTellsUptoRow : OpenClaim := { program := "ythgdhacopamklaagreat", sum := "880c709f39c43ae79c29f7f25fc90975be789446c36439c0c178956358e7a4d0", func := "catchment/catchmentlaw18.HashTells", spec := "hashTells", inPlace := ["slices.overlaps[catchment/api.Entry]"], unfollowed := true, recurses := true, plainKeys := false, apart := false, narrowed := true }
def HashTellsUptoSaid : Prop := hashTellsUptoRow.holds Tryz.pinned (OpenSpec.upto hashTellsSpec)

/-- 'catchmentlaw18.HashFinds', WHERE WHAT IT READS IS OF BULK AT MOST 1048576: true; the input reads as it did. -/
def hashFindsUptoRow : OpenClaim := { program := "ythgdhacopamklaagreat", sum := "880c709f39c43ae79c29f7f25fc90975be789446c36439c0c178956358e7a4d0", func := "catchment/catchmentlaw18.HashFinds", spec := "hashFinds", inPlace := ["slices.overlaps[catchment/api.Entry]"], unfollowed := true, recurses := true, plainKeys := false, apart := false, narrowed := true }
def HashFindsUptoSaid : Prop := hashFindsUptoRow.holds Tryz.pinned (OpenSpec.upto hashFindsSpec)

/-- 'catchmentlaw18.HashPages', WHERE WHAT IT READS IS OF BULK AT MOST 1048576: true; the input reads as it did. -/
def hashPagesUptoRow : OpenClaim := { program := "ythgdhacopamklaagreat", sum := "880c709f39c43ae79c29f7f25fc90975be789446c36439c0c178956358e7a4d0", func := "catchment/catchmentlaw18.HashPages", spec := "hashPages", inPlace := ["slices.overlaps[catchment/api.Entry]"], unfollowed := true, recurses := true, plainKeys := false, apart := false, narrowed := true }
def HashPagesUptoSaid : Prop := hashPagesUptoRow.holds Tryz.pinned (OpenSpec.upto hashPagesSpec)

/-- 'catchmentlaw18.HashSwap', WHERE WHAT IT READS IS OF BULK AT MOST 1048576: true; the input reads as it did. -/
def hashSwapUptoRow : OpenClaim := { program := "ythgdhacopamklaagreat", sum := "880c709f39c43ae79c29f7f25fc90975be789446c36439c0c178956358e7a4d0", func := "catchment/catchmentlaw18.HashSwap", spec := "hashSwap", inPlace := ["slices.overlaps[catchment/api.Entry]"], unfollowed := true, recurses := true, plainKeys := false, apart := false, narrowed := true }
def HashSwapUptoSaid : Prop := hashSwapUptoRow.holds Tryz.pinned (OpenSpec.upto hashSwapSpec)

/-- 'catchmentlaw18.HashRoom', WHERE WHAT IT READS IS OF BULK AT MOST 1048576: true; the input reads as it did. -/
def hashRoomUptoRow : OpenClaim := { program := "ythgdhacopamklaagreat", sum := "880c709f39c43ae79c29f7f25fc90975be789446c36439c0c178956358e7a4d0", func := "catchment/catchmentlaw18.HashRoom", spec := "hashRoom", inPlace := ["slices.overlaps[catchment/api.Entry]"], unfollowed := true, recurses := true, plainKeys := false, apart := false, narrowed := true }
def HashRoomUptoSaid : Prop := hashRoomUptoRow.holds Tryz.pinned (OpenSpec.upto hashRoomSpec)

/-- 'catchmentlaw18.HashKept', WHERE WHAT IT READS IS OF BULK AT MOST 1048576: true; the input reads as it did. -/
def hashKeptUptoRow : OpenClaim := { program := "ythgdhacopamklaagreat", sum := "880c709f39c43ae79c29f7f25fc90975be789446c36439c0c178956358e7a4d0", func := "catchment/catchmentlaw18.HashKept", spec := "hashKept", inPlace := ["slices.overlaps[catchment/api.Entry]"], unfollowed := true, recurses := true, plainKeys := false, apart := false, narrowed := true }
def HashKeptUptoSaid : Prop := hashKeptUptoRow.holds Tryz.pinned (OpenSpec.upto hashKeptSpec)

end Rows
end Go.Proofs.YthgdhacopamklaaGreat

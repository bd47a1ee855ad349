/-
  DERIVED. GIVEN WITH THE SEED: THE CARDS: each row of YtakiinghipjopaaGreatDoorRows.lean that lists a variable, with what it lists TIED to the program's text (the seventh form; the later family's looks); each row that meets fmt, with fmt's text TOLD by the authors' own Lean function (tested against real Go, not proved from fmt's source: count such statements apart). THE CARD IS WHAT COUNTS. Prove the row's statement (the work); the ties are given (YtakiinghipjopaaGreatDoorTie.lean); close each card by the builder's one call (the guide's Derived/Test/ToyasCard.lean, 'card_holds'). Laid BY PROGRAM, IN A SANDBOX (cutbox-door.mjs). By AI agents, Wed Nov 11 2026. No macro, syntax, notation, axiom, sorry.
-/
import Derived.Test.YtakiinghipjopaaGreatDoorRows
import GoSem.ClaimSeven
namespace Go.Proofs.YtakiinghipjopaaGreatDoor
namespace Rows

/-- THE TIED CARD OF 'catchmentlaw27.OpsTells'. -/
def opsTellsCard : Claim7 := { stood := { row := opsTellsRow, standIns := [], harness := (true, "5bc410e5a16beb9a8f2b957e2365d868c16a334c6c7d6c8031495e8407da646e"), looks := true }, kinds := [], alts := [], laidByText := true, laidKinds := [.data, .data, .data, .data, .sentinel, .sentinel, .listed, .data, .pinned], laidTests := true, laidLooks := .later }
def OpsTellsCardSaid : Prop := Claim7.holds Tryz.pinned (.plain (OpenSpec.ofChange opsTellsSpec)) opsTellsCard

/-- THE TIED CARD OF 'catchmentlaw27.OpsTold'. -/
def opsToldCard : Claim7 := { stood := { row := opsToldRow, standIns := [], harness := (true, "5bc410e5a16beb9a8f2b957e2365d868c16a334c6c7d6c8031495e8407da646e"), looks := true }, kinds := [], alts := [], laidByText := true, laidKinds := [.data, .data, .data, .data, .sentinel, .sentinel, .listed, .data, .pinned], laidTests := true, laidLooks := .later }
def OpsToldCardSaid : Prop := Claim7.holds Tryz.pinned (.plain (OpenSpec.ofChange opsToldSpec)) opsToldCard

/-- THE TIED CARD OF 'catchmentlaw27.OpsData'. -/
def opsDataCard : Claim7 := { stood := { row := opsDataRow, standIns := [], harness := (true, "5bc410e5a16beb9a8f2b957e2365d868c16a334c6c7d6c8031495e8407da646e"), looks := true }, kinds := [], alts := [], laidByText := true, laidKinds := [.data, .data, .data, .data, .sentinel, .sentinel, .listed, .data, .pinned], laidTests := true, laidLooks := .later }
def OpsDataCardSaid : Prop := Claim7.holds Tryz.pinned (.plain (OpenSpec.ofChange opsDataSpec)) opsDataCard

/-- THE SECOND FORM's CARD OF 'catchmentlaw27.OpsTells'. -/
def opsTellsUptoCard : Claim7 := { stood := { row := opsTellsUptoRow, standIns := [], harness := (true, "5bc410e5a16beb9a8f2b957e2365d868c16a334c6c7d6c8031495e8407da646e"), looks := true }, kinds := [], alts := [], laidByText := true, laidKinds := [.data, .data, .data, .data, .sentinel, .sentinel, .listed, .data, .pinned], laidTests := true, laidLooks := .later }
def OpsTellsUptoCardSaid : Prop := Claim7.holds Tryz.pinned (.plain (OpenSpec.upto opsTellsSpec)) opsTellsUptoCard

/-- THE SECOND FORM's CARD OF 'catchmentlaw27.OpsTold'. -/
def opsToldUptoCard : Claim7 := { stood := { row := opsToldUptoRow, standIns := [], harness := (true, "5bc410e5a16beb9a8f2b957e2365d868c16a334c6c7d6c8031495e8407da646e"), looks := true }, kinds := [], alts := [], laidByText := true, laidKinds := [.data, .data, .data, .data, .sentinel, .sentinel, .listed, .data, .pinned], laidTests := true, laidLooks := .later }
def OpsToldUptoCardSaid : Prop := Claim7.holds Tryz.pinned (.plain (OpenSpec.upto opsToldSpec)) opsToldUptoCard

/-- THE SECOND FORM's CARD OF 'catchmentlaw27.OpsData'. -/
def opsDataUptoCard : Claim7 := { stood := { row := opsDataUptoRow, standIns := [], harness := (true, "5bc410e5a16beb9a8f2b957e2365d868c16a334c6c7d6c8031495e8407da646e"), looks := true }, kinds := [], alts := [], laidByText := true, laidKinds := [.data, .data, .data, .data, .sentinel, .sentinel, .listed, .data, .pinned], laidTests := true, laidLooks := .later }
def OpsDataUptoCardSaid : Prop := Claim7.holds Tryz.pinned (.plain (OpenSpec.upto opsDataSpec)) opsDataUptoCard
end Rows
end Go.Proofs.YtakiinghipjopaaGreatDoor

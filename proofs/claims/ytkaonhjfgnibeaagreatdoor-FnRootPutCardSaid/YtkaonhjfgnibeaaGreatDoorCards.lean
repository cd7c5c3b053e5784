/-
  DERIVED. GIVEN WITH THE SEED: THE CARDS: each row of YtkaonhjfgnibeaaGreatDoorRows.lean that lists a variable, with what it lists TIED to the program's text (the seventh form; the later family's looks); each row that meets fmt, with fmt's text TOLD by the authors' own Lean function (tested against real Go, not proved from fmt's source: count such statements apart). THE CARD IS WHAT COUNTS. Prove the row's statement (the work); the ties are given (YtkaonhjfgnibeaaGreatDoorTie.lean); close each card by the builder's one call (the guide's Derived/Test/ToyasCard.lean, 'card_holds'). Laid BY PROGRAM, IN A SANDBOX (cutbox-door.mjs). By AI agents, Wed Nov 11 2026. No macro, syntax, notation, axiom, sorry.
-/
import Derived.Test.YtkaonhjfgnibeaaGreatDoorRows
import GoSem.ClaimSeven
namespace Go.Proofs.YtkaonhjfgnibeaaGreatDoor
namespace Rows

/-- THE TIED CARD OF 'laws.FnRootPut'. -/
def fnRootPutCard : Claim7 := { stood := { row := fnRootPutRow, standIns := [], harness := (true, "4a3455378f96c5e40c8f9d8774319bc00fca8ec0560d10f884324c41e3d6be6a"), looks := true }, kinds := [], alts := [], laidByText := true, laidKinds := [.data, .data, .data, .data, .sentinel, .sentinel, .pinned], laidTests := true, laidLooks := .later }
def FnRootPutCardSaid : Prop := Claim7.holds Tryz.pinned (.plain (OpenSpec.ofChange fnRootPutSpec)) fnRootPutCard

/-- THE TIED CARD OF 'laws.FnExactRootGet'. -/
def fnExactRootGetCard : Claim7 := { stood := { row := fnExactRootGetRow, standIns := [], harness := (true, "4a3455378f96c5e40c8f9d8774319bc00fca8ec0560d10f884324c41e3d6be6a"), looks := true }, kinds := [], alts := [], laidByText := true, laidKinds := [.data, .data, .data, .data, .sentinel, .sentinel, .pinned], laidTests := true, laidLooks := .later }
def FnExactRootGetCardSaid : Prop := Claim7.holds Tryz.pinned (.plain (OpenSpec.ofChange fnExactRootGetSpec)) fnExactRootGetCard

/-- THE TIED CARD OF 'laws.FnRootGet'. -/
def fnRootGetCard : Claim7 := { stood := { row := fnRootGetRow, standIns := [], harness := (true, "4a3455378f96c5e40c8f9d8774319bc00fca8ec0560d10f884324c41e3d6be6a"), looks := true }, kinds := [], alts := [], laidByText := true, laidKinds := [.data, .data, .data, .data, .sentinel, .sentinel, .pinned], laidTests := true, laidLooks := .later }
def FnRootGetCardSaid : Prop := Claim7.holds Tryz.pinned (.plain (OpenSpec.ofChange fnRootGetSpec)) fnRootGetCard

/-- THE TIED CARD OF 'laws.FnExactRootAt'. -/
def fnExactRootAtCard : Claim7 := { stood := { row := fnExactRootAtRow, standIns := [], harness := (true, "4a3455378f96c5e40c8f9d8774319bc00fca8ec0560d10f884324c41e3d6be6a"), looks := true }, kinds := [], alts := [], laidByText := true, laidKinds := [.data, .data, .data, .data, .sentinel, .sentinel, .pinned], laidTests := true, laidLooks := .later }
def FnExactRootAtCardSaid : Prop := Claim7.holds Tryz.pinned (.plain (OpenSpec.ofChange fnExactRootAtSpec)) fnExactRootAtCard

/-- THE TIED CARD OF 'laws.FnRootAt'. -/
def fnRootAtCard : Claim7 := { stood := { row := fnRootAtRow, standIns := [], harness := (true, "4a3455378f96c5e40c8f9d8774319bc00fca8ec0560d10f884324c41e3d6be6a"), looks := true }, kinds := [], alts := [], laidByText := true, laidKinds := [.data, .data, .data, .data, .sentinel, .sentinel, .pinned], laidTests := true, laidLooks := .later }
def FnRootAtCardSaid : Prop := Claim7.holds Tryz.pinned (.plain (OpenSpec.ofChange fnRootAtSpec)) fnRootAtCard

/-- THE TIED CARD OF 'laws.FnRootList'. -/
def fnRootListCard : Claim7 := { stood := { row := fnRootListRow, standIns := [], harness := (true, "4a3455378f96c5e40c8f9d8774319bc00fca8ec0560d10f884324c41e3d6be6a"), looks := true }, kinds := [], alts := [], laidByText := true, laidKinds := [.data, .data, .data, .data, .sentinel, .sentinel, .pinned], laidTests := true, laidLooks := .later }
def FnRootListCardSaid : Prop := Claim7.holds Tryz.pinned (.plain (OpenSpec.ofChange fnRootListSpec)) fnRootListCard

/-- THE TIED CARD OF 'laws.FnExactRootList'. -/
def fnExactRootListCard : Claim7 := { stood := { row := fnExactRootListRow, standIns := [], harness := (true, "4a3455378f96c5e40c8f9d8774319bc00fca8ec0560d10f884324c41e3d6be6a"), looks := true }, kinds := [], alts := [], laidByText := true, laidKinds := [.data, .data, .data, .data, .sentinel, .sentinel, .pinned], laidTests := true, laidLooks := .later }
def FnExactRootListCardSaid : Prop := Claim7.holds Tryz.pinned (.plain (OpenSpec.ofChange fnExactRootListSpec)) fnExactRootListCard

/-- THE SECOND FORM's CARD OF 'laws.FnRootPut'. -/
def fnRootPutUptoCard : Claim7 := { stood := { row := fnRootPutUptoRow, standIns := [], harness := (true, "4a3455378f96c5e40c8f9d8774319bc00fca8ec0560d10f884324c41e3d6be6a"), looks := true }, kinds := [], alts := [], laidByText := true, laidKinds := [.data, .data, .data, .data, .sentinel, .sentinel, .pinned], laidTests := true, laidLooks := .later }
def FnRootPutUptoCardSaid : Prop := Claim7.holds Tryz.pinned (.plain (OpenSpec.upto fnRootPutSpec)) fnRootPutUptoCard

/-- THE SECOND FORM's CARD OF 'laws.FnExactRootGet'. -/
def fnExactRootGetUptoCard : Claim7 := { stood := { row := fnExactRootGetUptoRow, standIns := [], harness := (true, "4a3455378f96c5e40c8f9d8774319bc00fca8ec0560d10f884324c41e3d6be6a"), looks := true }, kinds := [], alts := [], laidByText := true, laidKinds := [.data, .data, .data, .data, .sentinel, .sentinel, .pinned], laidTests := true, laidLooks := .later }
def FnExactRootGetUptoCardSaid : Prop := Claim7.holds Tryz.pinned (.plain (OpenSpec.upto fnExactRootGetSpec)) fnExactRootGetUptoCard

/-- THE SECOND FORM's CARD OF 'laws.FnRootGet'. -/
def fnRootGetUptoCard : Claim7 := { stood := { row := fnRootGetUptoRow, standIns := [], harness := (true, "4a3455378f96c5e40c8f9d8774319bc00fca8ec0560d10f884324c41e3d6be6a"), looks := true }, kinds := [], alts := [], laidByText := true, laidKinds := [.data, .data, .data, .data, .sentinel, .sentinel, .pinned], laidTests := true, laidLooks := .later }
def FnRootGetUptoCardSaid : Prop := Claim7.holds Tryz.pinned (.plain (OpenSpec.upto fnRootGetSpec)) fnRootGetUptoCard

/-- THE SECOND FORM's CARD OF 'laws.FnExactRootAt'. -/
def fnExactRootAtUptoCard : Claim7 := { stood := { row := fnExactRootAtUptoRow, standIns := [], harness := (true, "4a3455378f96c5e40c8f9d8774319bc00fca8ec0560d10f884324c41e3d6be6a"), looks := true }, kinds := [], alts := [], laidByText := true, laidKinds := [.data, .data, .data, .data, .sentinel, .sentinel, .pinned], laidTests := true, laidLooks := .later }
def FnExactRootAtUptoCardSaid : Prop := Claim7.holds Tryz.pinned (.plain (OpenSpec.upto fnExactRootAtSpec)) fnExactRootAtUptoCard

/-- THE SECOND FORM's CARD OF 'laws.FnRootAt'. -/
def fnRootAtUptoCard : Claim7 := { stood := { row := fnRootAtUptoRow, standIns := [], harness := (true, "4a3455378f96c5e40c8f9d8774319bc00fca8ec0560d10f884324c41e3d6be6a"), looks := true }, kinds := [], alts := [], laidByText := true, laidKinds := [.data, .data, .data, .data, .sentinel, .sentinel, .pinned], laidTests := true, laidLooks := .later }
def FnRootAtUptoCardSaid : Prop := Claim7.holds Tryz.pinned (.plain (OpenSpec.upto fnRootAtSpec)) fnRootAtUptoCard

/-- THE SECOND FORM's CARD OF 'laws.FnRootList'. -/
def fnRootListUptoCard : Claim7 := { stood := { row := fnRootListUptoRow, standIns := [], harness := (true, "4a3455378f96c5e40c8f9d8774319bc00fca8ec0560d10f884324c41e3d6be6a"), looks := true }, kinds := [], alts := [], laidByText := true, laidKinds := [.data, .data, .data, .data, .sentinel, .sentinel, .pinned], laidTests := true, laidLooks := .later }
def FnRootListUptoCardSaid : Prop := Claim7.holds Tryz.pinned (.plain (OpenSpec.upto fnRootListSpec)) fnRootListUptoCard

/-- THE SECOND FORM's CARD OF 'laws.FnExactRootList'. -/
def fnExactRootListUptoCard : Claim7 := { stood := { row := fnExactRootListUptoRow, standIns := [], harness := (true, "4a3455378f96c5e40c8f9d8774319bc00fca8ec0560d10f884324c41e3d6be6a"), looks := true }, kinds := [], alts := [], laidByText := true, laidKinds := [.data, .data, .data, .data, .sentinel, .sentinel, .pinned], laidTests := true, laidLooks := .later }
def FnExactRootListUptoCardSaid : Prop := Claim7.holds Tryz.pinned (.plain (OpenSpec.upto fnExactRootListSpec)) fnExactRootListUptoCard
end Rows
end Go.Proofs.YtkaonhjfgnibeaaGreatDoor

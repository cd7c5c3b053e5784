/-
  DERIVED. GIVEN WITH THE SEED: THE CARDS: each row of YtkmkmndcgemnlaaGreatDoorRows.lean that lists a variable, with what it lists TIED to the program's text (the seventh form; the later family's looks); each row that meets fmt, with fmt's text TOLD by the authors' own Lean function (tested against real Go, not proved from fmt's source: count such statements apart). THE CARD IS WHAT COUNTS. Prove the row's statement (the work); the ties are given (YtkmkmndcgemnlaaGreatDoorTie.lean); close each card by the builder's one call (the guide's Derived/Test/ToyasCard.lean, 'card_holds'). Laid BY PROGRAM, IN A SANDBOX (cutbox-door.mjs). By AI agents, Wed Nov 11 2026. No macro, syntax, notation, axiom, sorry.
-/
import Derived.Test.YtkmkmndcgemnlaaGreatDoorRows
import GoSem.ClaimSeven
namespace Go.Proofs.YtkmkmndcgemnlaaGreatDoor
namespace Rows

/-- THE TIED CARD OF 'laws.FnIntentPut'. -/
def fnIntentPutCard : Claim7 := { stood := { row := fnIntentPutRow, standIns := [], harness := (true, "00b6227dc599fd75217252109715f77efec4d8431bc8ff6596fdf13ee32742b7"), looks := true }, kinds := [], alts := [], laidByText := true, laidKinds := [.data, .data, .data, .data, .sentinel, .sentinel, .pinned], laidTests := true, laidLooks := .later }
def FnIntentPutCardSaid : Prop := Claim7.holds Tryz.pinned (.plain (OpenSpec.ofChange fnIntentPutSpec)) fnIntentPutCard

/-- THE TIED CARD OF 'laws.FnExactIntentGet'. -/
def fnExactIntentGetCard : Claim7 := { stood := { row := fnExactIntentGetRow, standIns := [], harness := (true, "00b6227dc599fd75217252109715f77efec4d8431bc8ff6596fdf13ee32742b7"), looks := true }, kinds := [], alts := [], laidByText := true, laidKinds := [.data, .data, .data, .data, .sentinel, .sentinel, .pinned], laidTests := true, laidLooks := .later }
def FnExactIntentGetCardSaid : Prop := Claim7.holds Tryz.pinned (.plain (OpenSpec.ofChange fnExactIntentGetSpec)) fnExactIntentGetCard

/-- THE TIED CARD OF 'laws.FnIntentGet'. -/
def fnIntentGetCard : Claim7 := { stood := { row := fnIntentGetRow, standIns := [], harness := (true, "00b6227dc599fd75217252109715f77efec4d8431bc8ff6596fdf13ee32742b7"), looks := true }, kinds := [], alts := [], laidByText := true, laidKinds := [.data, .data, .data, .data, .sentinel, .sentinel, .pinned], laidTests := true, laidLooks := .later }
def FnIntentGetCardSaid : Prop := Claim7.holds Tryz.pinned (.plain (OpenSpec.ofChange fnIntentGetSpec)) fnIntentGetCard

/-- THE TIED CARD OF 'laws.FnOpGet'. -/
def fnOpGetCard : Claim7 := { stood := { row := fnOpGetRow, standIns := [], harness := (true, "00b6227dc599fd75217252109715f77efec4d8431bc8ff6596fdf13ee32742b7"), looks := true }, kinds := [], alts := [], laidByText := true, laidKinds := [.data, .data, .data, .data, .sentinel, .sentinel, .pinned], laidTests := true, laidLooks := .later }
def FnOpGetCardSaid : Prop := Claim7.holds Tryz.pinned (.plain (OpenSpec.ofChange fnOpGetSpec)) fnOpGetCard

/-- THE TIED CARD OF 'laws.FnIntentList'. -/
def fnIntentListCard : Claim7 := { stood := { row := fnIntentListRow, standIns := [], harness := (true, "00b6227dc599fd75217252109715f77efec4d8431bc8ff6596fdf13ee32742b7"), looks := true }, kinds := [], alts := [], laidByText := true, laidKinds := [.data, .data, .data, .data, .sentinel, .sentinel, .pinned], laidTests := true, laidLooks := .later }
def FnIntentListCardSaid : Prop := Claim7.holds Tryz.pinned (.plain (OpenSpec.ofChange fnIntentListSpec)) fnIntentListCard

/-- THE TIED CARD OF 'laws.FnExactIntentList'. -/
def fnExactIntentListCard : Claim7 := { stood := { row := fnExactIntentListRow, standIns := [], harness := (true, "00b6227dc599fd75217252109715f77efec4d8431bc8ff6596fdf13ee32742b7"), looks := true }, kinds := [], alts := [], laidByText := true, laidKinds := [.data, .data, .data, .data, .sentinel, .sentinel, .pinned], laidTests := true, laidLooks := .later }
def FnExactIntentListCardSaid : Prop := Claim7.holds Tryz.pinned (.plain (OpenSpec.ofChange fnExactIntentListSpec)) fnExactIntentListCard

/-- THE SECOND FORM's CARD OF 'laws.FnIntentPut'. -/
def fnIntentPutUptoCard : Claim7 := { stood := { row := fnIntentPutUptoRow, standIns := [], harness := (true, "00b6227dc599fd75217252109715f77efec4d8431bc8ff6596fdf13ee32742b7"), looks := true }, kinds := [], alts := [], laidByText := true, laidKinds := [.data, .data, .data, .data, .sentinel, .sentinel, .pinned], laidTests := true, laidLooks := .later }
def FnIntentPutUptoCardSaid : Prop := Claim7.holds Tryz.pinned (.plain (OpenSpec.upto fnIntentPutSpec)) fnIntentPutUptoCard

/-- THE SECOND FORM's CARD OF 'laws.FnExactIntentGet'. -/
def fnExactIntentGetUptoCard : Claim7 := { stood := { row := fnExactIntentGetUptoRow, standIns := [], harness := (true, "00b6227dc599fd75217252109715f77efec4d8431bc8ff6596fdf13ee32742b7"), looks := true }, kinds := [], alts := [], laidByText := true, laidKinds := [.data, .data, .data, .data, .sentinel, .sentinel, .pinned], laidTests := true, laidLooks := .later }
def FnExactIntentGetUptoCardSaid : Prop := Claim7.holds Tryz.pinned (.plain (OpenSpec.upto fnExactIntentGetSpec)) fnExactIntentGetUptoCard

/-- THE SECOND FORM's CARD OF 'laws.FnIntentGet'. -/
def fnIntentGetUptoCard : Claim7 := { stood := { row := fnIntentGetUptoRow, standIns := [], harness := (true, "00b6227dc599fd75217252109715f77efec4d8431bc8ff6596fdf13ee32742b7"), looks := true }, kinds := [], alts := [], laidByText := true, laidKinds := [.data, .data, .data, .data, .sentinel, .sentinel, .pinned], laidTests := true, laidLooks := .later }
def FnIntentGetUptoCardSaid : Prop := Claim7.holds Tryz.pinned (.plain (OpenSpec.upto fnIntentGetSpec)) fnIntentGetUptoCard

/-- THE SECOND FORM's CARD OF 'laws.FnOpGet'. -/
def fnOpGetUptoCard : Claim7 := { stood := { row := fnOpGetUptoRow, standIns := [], harness := (true, "00b6227dc599fd75217252109715f77efec4d8431bc8ff6596fdf13ee32742b7"), looks := true }, kinds := [], alts := [], laidByText := true, laidKinds := [.data, .data, .data, .data, .sentinel, .sentinel, .pinned], laidTests := true, laidLooks := .later }
def FnOpGetUptoCardSaid : Prop := Claim7.holds Tryz.pinned (.plain (OpenSpec.upto fnOpGetSpec)) fnOpGetUptoCard

/-- THE SECOND FORM's CARD OF 'laws.FnIntentList'. -/
def fnIntentListUptoCard : Claim7 := { stood := { row := fnIntentListUptoRow, standIns := [], harness := (true, "00b6227dc599fd75217252109715f77efec4d8431bc8ff6596fdf13ee32742b7"), looks := true }, kinds := [], alts := [], laidByText := true, laidKinds := [.data, .data, .data, .data, .sentinel, .sentinel, .pinned], laidTests := true, laidLooks := .later }
def FnIntentListUptoCardSaid : Prop := Claim7.holds Tryz.pinned (.plain (OpenSpec.upto fnIntentListSpec)) fnIntentListUptoCard

/-- THE SECOND FORM's CARD OF 'laws.FnExactIntentList'. -/
def fnExactIntentListUptoCard : Claim7 := { stood := { row := fnExactIntentListUptoRow, standIns := [], harness := (true, "00b6227dc599fd75217252109715f77efec4d8431bc8ff6596fdf13ee32742b7"), looks := true }, kinds := [], alts := [], laidByText := true, laidKinds := [.data, .data, .data, .data, .sentinel, .sentinel, .pinned], laidTests := true, laidLooks := .later }
def FnExactIntentListUptoCardSaid : Prop := Claim7.holds Tryz.pinned (.plain (OpenSpec.upto fnExactIntentListSpec)) fnExactIntentListUptoCard
end Rows
end Go.Proofs.YtkmkmndcgemnlaaGreatDoor

/-
  DERIVED. GIVEN WITH THE SEED: THE CARDS: each row of YtggdjiklgakfnaaGreatDoorRows.lean that lists a variable, with what it lists TIED to the program's text (the seventh form; the later family's looks); each row that meets fmt, with fmt's text TOLD by the authors' own Lean function (tested against real Go, not proved from fmt's source: count such statements apart). THE CARD IS WHAT COUNTS. Prove the row's statement (the work); the ties are given (YtggdjiklgakfnaaGreatDoorTie.lean); close each card by the builder's one call (the guide's Derived/Test/ToyasCard.lean, 'card_holds'). Laid BY PROGRAM, IN A SANDBOX (cutbox-door.mjs). By AI agents, Wed Nov 11 2026. No macro, syntax, notation, axiom, sorry.
-/
import Derived.Test.YtggdjiklgakfnaaGreatDoorRows
import GoSem.ClaimSeven
namespace Go.Proofs.YtggdjiklgakfnaaGreatDoor
namespace Rows

/-- THE TIED CARD OF 'laws.FnIntentList'. -/
def fnIntentListCard : Claim7 := { stood := { row := fnIntentListRow, standIns := [], harness := (true, "a6482e8d5ff7d07f2eda5a54222b1cd9b710448c38cefcae9df3e80b0a319eb4"), looks := true }, kinds := [], alts := [], laidByText := true, laidKinds := [.data, .data, .data, .data, .sentinel, .sentinel, .pinned], laidTests := true, laidLooks := .later }
def FnIntentListCardSaid : Prop := Claim7.holds Tryz.pinned (.plain (OpenSpec.ofChange fnIntentListSpec)) fnIntentListCard

/-- THE TIED CARD OF 'laws.FnExactIntentList'. -/
def fnExactIntentListCard : Claim7 := { stood := { row := fnExactIntentListRow, standIns := [], harness := (true, "a6482e8d5ff7d07f2eda5a54222b1cd9b710448c38cefcae9df3e80b0a319eb4"), looks := true }, kinds := [], alts := [], laidByText := true, laidKinds := [.data, .data, .data, .data, .sentinel, .sentinel, .pinned], laidTests := true, laidLooks := .later }
def FnExactIntentListCardSaid : Prop := Claim7.holds Tryz.pinned (.plain (OpenSpec.ofChange fnExactIntentListSpec)) fnExactIntentListCard

/-- THE SECOND FORM's CARD OF 'laws.FnIntentList'. -/
def fnIntentListUptoCard : Claim7 := { stood := { row := fnIntentListUptoRow, standIns := [], harness := (true, "a6482e8d5ff7d07f2eda5a54222b1cd9b710448c38cefcae9df3e80b0a319eb4"), looks := true }, kinds := [], alts := [], laidByText := true, laidKinds := [.data, .data, .data, .data, .sentinel, .sentinel, .pinned], laidTests := true, laidLooks := .later }
def FnIntentListUptoCardSaid : Prop := Claim7.holds Tryz.pinned (.plain (OpenSpec.upto fnIntentListSpec)) fnIntentListUptoCard

/-- THE SECOND FORM's CARD OF 'laws.FnExactIntentList'. -/
def fnExactIntentListUptoCard : Claim7 := { stood := { row := fnExactIntentListUptoRow, standIns := [], harness := (true, "a6482e8d5ff7d07f2eda5a54222b1cd9b710448c38cefcae9df3e80b0a319eb4"), looks := true }, kinds := [], alts := [], laidByText := true, laidKinds := [.data, .data, .data, .data, .sentinel, .sentinel, .pinned], laidTests := true, laidLooks := .later }
def FnExactIntentListUptoCardSaid : Prop := Claim7.holds Tryz.pinned (.plain (OpenSpec.upto fnExactIntentListSpec)) fnExactIntentListUptoCard
end Rows
end Go.Proofs.YtggdjiklgakfnaaGreatDoor

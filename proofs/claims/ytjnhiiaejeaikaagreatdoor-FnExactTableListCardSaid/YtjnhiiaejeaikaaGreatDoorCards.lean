/-
  DERIVED. GIVEN WITH THE SEED: THE CARDS: each row of YtjnhiiaejeaikaaGreatDoorRows.lean that lists a variable, with what it lists TIED to the program's text (the seventh form; the later family's looks); each row that meets fmt, with fmt's text TOLD by the authors' own Lean function (tested against real Go, not proved from fmt's source: count such statements apart). THE CARD IS WHAT COUNTS. Prove the row's statement (the work); the ties are given (YtjnhiiaejeaikaaGreatDoorTie.lean); close each card by the builder's one call (the guide's Derived/Test/ToyasCard.lean, 'card_holds'). Laid BY PROGRAM, IN A SANDBOX (cutbox-door.mjs). By AI agents, Wed Nov 11 2026. No macro, syntax, notation, axiom, sorry.
-/
import Derived.Test.YtjnhiiaejeaikaaGreatDoorRows
import GoSem.ClaimSeven
namespace Go.Proofs.YtjnhiiaejeaikaaGreatDoor
namespace Rows

/-- THE TIED CARD OF 'laws.FnExactTableList'. -/
def fnExactTableListCard : Claim7 := { stood := { row := fnExactTableListRow, standIns := [], harness := (true, "0ee1812f36cc44503d7768166b927b347c68d0556b4f2b31de8429d842862a02"), looks := true }, kinds := [], alts := [], laidByText := true, laidKinds := [.data, .data, .data, .data, .sentinel, .sentinel, .pinned], laidTests := true, laidLooks := .later }
def FnExactTableListCardSaid : Prop := Claim7.holds Tryz.pinned (.plain (OpenSpec.ofChange fnExactTableListSpec)) fnExactTableListCard

/-- THE TIED CARD OF 'laws.FnExactTableOk'. -/
def fnExactTableOkCard : Claim7 := { stood := { row := fnExactTableOkRow, standIns := [], harness := (true, "0ee1812f36cc44503d7768166b927b347c68d0556b4f2b31de8429d842862a02"), looks := true }, kinds := [], alts := [], laidByText := true, laidKinds := [.data, .data, .data, .data, .sentinel, .sentinel, .pinned], laidTests := true, laidLooks := .later }
def FnExactTableOkCardSaid : Prop := Claim7.holds Tryz.pinned (.plain (OpenSpec.ofChange fnExactTableOkSpec)) fnExactTableOkCard

/-- THE TIED CARD OF 'laws.FnExactTableFree'. -/
def fnExactTableFreeCard : Claim7 := { stood := { row := fnExactTableFreeRow, standIns := [], harness := (true, "0ee1812f36cc44503d7768166b927b347c68d0556b4f2b31de8429d842862a02"), looks := true }, kinds := [], alts := [], laidByText := true, laidKinds := [.data, .data, .data, .data, .sentinel, .sentinel, .pinned], laidTests := true, laidLooks := .later }
def FnExactTableFreeCardSaid : Prop := Claim7.holds Tryz.pinned (.plain (OpenSpec.ofChange fnExactTableFreeSpec)) fnExactTableFreeCard

/-- THE TIED CARD OF 'laws.FnExactTableGet'. -/
def fnExactTableGetCard : Claim7 := { stood := { row := fnExactTableGetRow, standIns := [], harness := (true, "0ee1812f36cc44503d7768166b927b347c68d0556b4f2b31de8429d842862a02"), looks := true }, kinds := [], alts := [], laidByText := true, laidKinds := [.data, .data, .data, .data, .sentinel, .sentinel, .pinned], laidTests := true, laidLooks := .later }
def FnExactTableGetCardSaid : Prop := Claim7.holds Tryz.pinned (.plain (OpenSpec.ofChange fnExactTableGetSpec)) fnExactTableGetCard

/-- THE SECOND FORM's CARD OF 'laws.FnExactTableList'. -/
def fnExactTableListUptoCard : Claim7 := { stood := { row := fnExactTableListUptoRow, standIns := [], harness := (true, "0ee1812f36cc44503d7768166b927b347c68d0556b4f2b31de8429d842862a02"), looks := true }, kinds := [], alts := [], laidByText := true, laidKinds := [.data, .data, .data, .data, .sentinel, .sentinel, .pinned], laidTests := true, laidLooks := .later }
def FnExactTableListUptoCardSaid : Prop := Claim7.holds Tryz.pinned (.plain (OpenSpec.upto fnExactTableListSpec)) fnExactTableListUptoCard

/-- THE SECOND FORM's CARD OF 'laws.FnExactTableOk'. -/
def fnExactTableOkUptoCard : Claim7 := { stood := { row := fnExactTableOkUptoRow, standIns := [], harness := (true, "0ee1812f36cc44503d7768166b927b347c68d0556b4f2b31de8429d842862a02"), looks := true }, kinds := [], alts := [], laidByText := true, laidKinds := [.data, .data, .data, .data, .sentinel, .sentinel, .pinned], laidTests := true, laidLooks := .later }
def FnExactTableOkUptoCardSaid : Prop := Claim7.holds Tryz.pinned (.plain (OpenSpec.upto fnExactTableOkSpec)) fnExactTableOkUptoCard

/-- THE SECOND FORM's CARD OF 'laws.FnExactTableFree'. -/
def fnExactTableFreeUptoCard : Claim7 := { stood := { row := fnExactTableFreeUptoRow, standIns := [], harness := (true, "0ee1812f36cc44503d7768166b927b347c68d0556b4f2b31de8429d842862a02"), looks := true }, kinds := [], alts := [], laidByText := true, laidKinds := [.data, .data, .data, .data, .sentinel, .sentinel, .pinned], laidTests := true, laidLooks := .later }
def FnExactTableFreeUptoCardSaid : Prop := Claim7.holds Tryz.pinned (.plain (OpenSpec.upto fnExactTableFreeSpec)) fnExactTableFreeUptoCard

/-- THE SECOND FORM's CARD OF 'laws.FnExactTableGet'. -/
def fnExactTableGetUptoCard : Claim7 := { stood := { row := fnExactTableGetUptoRow, standIns := [], harness := (true, "0ee1812f36cc44503d7768166b927b347c68d0556b4f2b31de8429d842862a02"), looks := true }, kinds := [], alts := [], laidByText := true, laidKinds := [.data, .data, .data, .data, .sentinel, .sentinel, .pinned], laidTests := true, laidLooks := .later }
def FnExactTableGetUptoCardSaid : Prop := Claim7.holds Tryz.pinned (.plain (OpenSpec.upto fnExactTableGetSpec)) fnExactTableGetUptoCard
end Rows
end Go.Proofs.YtjnhiiaejeaikaaGreatDoor

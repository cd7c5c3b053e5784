/-
  DERIVED. GIVEN WITH THE SEED: THE CARDS: each row of YtkaonhjfgnibeaaDoorRows.lean that lists a variable, with what it lists TIED to the program's text (the seventh form; the later family's looks); each row that meets fmt, with fmt's text TOLD by the authors' own Lean function (tested against real Go, not proved from fmt's source: count such statements apart). THE CARD IS WHAT COUNTS. Prove the row's statement (the work); the ties are given (YtkaonhjfgnibeaaDoorTie.lean); close each card by the builder's one call (the guide's Derived/Test/ToyasCard.lean, 'card_holds'). Laid BY PROGRAM, IN A SANDBOX (cutbox-door.mjs). By AI agents, Wed Nov 11 2026. No macro, syntax, notation, axiom, sorry.
-/
import Derived.Test.YtkaonhjfgnibeaaDoorRows
import GoSem.ClaimSeven
namespace Go.Proofs.YtkaonhjfgnibeaaDoor
namespace Rows

/-- THE TIED CARD OF 'laws.FnExactRootPut'. -/
def fnExactRootPutCard : Claim7 := { stood := { row := fnExactRootPutRow, standIns := [], harness := (true, "45a0f6a6259c212d4ee940497fc8817d4132fd33ba6951b09fdc6996a496945c"), looks := false }, kinds := [], alts := [], laidByText := true, laidKinds := [.data, .data, .data], laidTests := true, laidLooks := .later }
def FnExactRootPutCardSaid : Prop := Claim7.holds Tryd.pinned (.plain (OpenSpec.ofChange fnExactRootPutSpec)) fnExactRootPutCard

/-- THE TIED CARD OF 'laws.FnExactTreeText'. -/
def fnExactTreeTextCard : Claim7 := { stood := { row := fnExactTreeTextRow, standIns := [], harness := (true, "45a0f6a6259c212d4ee940497fc8817d4132fd33ba6951b09fdc6996a496945c"), looks := false }, kinds := [], alts := [], laidByText := true, laidKinds := [.data, .data, .data], laidTests := true, laidLooks := .later }
def FnExactTreeTextCardSaid : Prop := Claim7.holds Tryd.pinned (.plain (OpenSpec.ofChange fnExactTreeTextSpec)) fnExactTreeTextCard

/-- THE SECOND FORM's CARD OF 'laws.FnExactRootPut'. -/
def fnExactRootPutUptoCard : Claim7 := { stood := { row := fnExactRootPutUptoRow, standIns := [], harness := (true, "45a0f6a6259c212d4ee940497fc8817d4132fd33ba6951b09fdc6996a496945c"), looks := false }, kinds := [], alts := [], laidByText := true, laidKinds := [.data, .data, .data], laidTests := true, laidLooks := .later }
def FnExactRootPutUptoCardSaid : Prop := Claim7.holds Tryd.pinned (.plain (OpenSpec.upto fnExactRootPutSpec)) fnExactRootPutUptoCard

/-- THE SECOND FORM's CARD OF 'laws.FnExactTreeText'. -/
def fnExactTreeTextUptoCard : Claim7 := { stood := { row := fnExactTreeTextUptoRow, standIns := [], harness := (true, "45a0f6a6259c212d4ee940497fc8817d4132fd33ba6951b09fdc6996a496945c"), looks := false }, kinds := [], alts := [], laidByText := true, laidKinds := [.data, .data, .data], laidTests := true, laidLooks := .later }
def FnExactTreeTextUptoCardSaid : Prop := Claim7.holds Tryd.pinned (.plain (OpenSpec.upto fnExactTreeTextSpec)) fnExactTreeTextUptoCard
end Rows
end Go.Proofs.YtkaonhjfgnibeaaDoor

/-
  DERIVED. GIVEN WITH THE SEED: THE CARDS: each row of YtlacpcdbgimnmaaDoorRows.lean that lists a variable, with what it lists TIED to the program's text (the seventh form; the later family's looks); each row that meets fmt, with fmt's text TOLD by the authors' own Lean function (tested against real Go, not proved from fmt's source: count such statements apart). THE CARD IS WHAT COUNTS. Prove the row's statement (the work); the ties are given (YtlacpcdbgimnmaaDoorTie.lean); close each card by the builder's one call (the guide's Derived/Test/ToyasCard.lean, 'card_holds'). Laid BY PROGRAM, IN A SANDBOX (cutbox-door.mjs). By AI agents, Wed Nov 11 2026. No macro, syntax, notation, axiom, sorry.
-/
import Derived.Test.YtlacpcdbgimnmaaDoorRows
import GoSem.ClaimSeven
namespace Go.Proofs.YtlacpcdbgimnmaaDoor
namespace Rows

/-- THE TIED CARD OF 'laws.FnExactMetaPut'. -/
def fnExactMetaPutCard : Claim7 := { stood := { row := fnExactMetaPutRow, standIns := [], harness := (true, "165c27ca6da62006078f9514055dc6fbe1537e4bf911aa63e9dc81e02cc1637e"), looks := false }, kinds := [], alts := [], laidByText := true, laidKinds := [.data, .data, .data], laidTests := true, laidLooks := .later }
def FnExactMetaPutCardSaid : Prop := Claim7.holds Tryd.pinned (.plain (OpenSpec.ofChange fnExactMetaPutSpec)) fnExactMetaPutCard

/-- THE SECOND FORM's CARD OF 'laws.FnExactMetaPut'. -/
def fnExactMetaPutUptoCard : Claim7 := { stood := { row := fnExactMetaPutUptoRow, standIns := [], harness := (true, "165c27ca6da62006078f9514055dc6fbe1537e4bf911aa63e9dc81e02cc1637e"), looks := false }, kinds := [], alts := [], laidByText := true, laidKinds := [.data, .data, .data], laidTests := true, laidLooks := .later }
def FnExactMetaPutUptoCardSaid : Prop := Claim7.holds Tryd.pinned (.plain (OpenSpec.upto fnExactMetaPutSpec)) fnExactMetaPutUptoCard
end Rows
end Go.Proofs.YtlacpcdbgimnmaaDoor

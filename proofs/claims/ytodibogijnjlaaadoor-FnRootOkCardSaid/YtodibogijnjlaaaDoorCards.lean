/-
  DERIVED. GIVEN WITH THE SEED: THE CARDS: each row of YtodibogijnjlaaaDoorRows.lean that lists a variable, with what it lists TIED to the program's text (the seventh form; the later family's looks); each row that meets fmt, with fmt's text TOLD by the authors' own Lean function (tested against real Go, not proved from fmt's source: count such statements apart). THE CARD IS WHAT COUNTS. Prove the row's statement (the work); the ties are given (YtodibogijnjlaaaDoorTie.lean); close each card by the builder's one call (the guide's Derived/Test/ToyasCard.lean, 'card_holds'). Laid BY PROGRAM, IN A SANDBOX (cutbox-door.mjs). By AI agents, Wed Nov 11 2026. No macro, syntax, notation, axiom, sorry.
-/
import Derived.Test.YtodibogijnjlaaaDoorRows
import GoSem.ClaimSeven
namespace Go.Proofs.YtodibogijnjlaaaDoor
namespace Rows

/-- THE TIED CARD OF 'laws.FnRootOk'. -/
def fnRootOkCard : Claim7 := { stood := { row := fnRootOkRow, standIns := [], harness := (true, "9ecdb65415f47bd5b04bb5f3e1856984ec4d0507a9d536529340729daf1f2bd0"), looks := false }, kinds := [], alts := [], laidByText := true, laidKinds := [.data, .data, .data], laidTests := true, laidLooks := .later }
def FnRootOkCardSaid : Prop := Claim7.holds Tryd.pinned (.plain (OpenSpec.ofChange fnRootOkSpec)) fnRootOkCard

/-- THE SECOND FORM's CARD OF 'laws.FnRootOk'. -/
def fnRootOkUptoCard : Claim7 := { stood := { row := fnRootOkUptoRow, standIns := [], harness := (true, "9ecdb65415f47bd5b04bb5f3e1856984ec4d0507a9d536529340729daf1f2bd0"), looks := false }, kinds := [], alts := [], laidByText := true, laidKinds := [.data, .data, .data], laidTests := true, laidLooks := .later }
def FnRootOkUptoCardSaid : Prop := Claim7.holds Tryd.pinned (.plain (OpenSpec.upto fnRootOkSpec)) fnRootOkUptoCard
end Rows
end Go.Proofs.YtodibogijnjlaaaDoor

/-
  DERIVED. GIVEN WITH THE SEED: THE CARDS: each row of YtlacpcdbgimnmaaGreatDoorRows.lean that lists a variable, with what it lists TIED to the program's text (the seventh form; the later family's looks); each row that meets fmt, with fmt's text TOLD by the authors' own Lean function (tested against real Go, not proved from fmt's source: count such statements apart). THE CARD IS WHAT COUNTS. Prove the row's statement (the work); the ties are given (YtlacpcdbgimnmaaGreatDoorTie.lean); close each card by the builder's one call (the guide's Derived/Test/ToyasCard.lean, 'card_holds'). Laid BY PROGRAM, IN A SANDBOX (cutbox-door.mjs). By AI agents, Wed Nov 11 2026. No macro, syntax, notation, axiom, sorry.
-/
import Derived.Test.YtlacpcdbgimnmaaGreatDoorRows
import GoSem.ClaimSeven
namespace Go.Proofs.YtlacpcdbgimnmaaGreatDoor
namespace Rows

/-- THE TIED CARD OF 'laws.FnExactMetaGet'. -/
def fnExactMetaGetCard : Claim7 := { stood := { row := fnExactMetaGetRow, standIns := [], harness := (true, "23b0a8e7bfc2dd2417bc87a9d659098e2903e52891a1bc16db0c217c69426941"), looks := true }, kinds := [], alts := [], laidByText := true, laidKinds := [.data, .data, .data, .data, .sentinel, .sentinel, .pinned], laidTests := true, laidLooks := .later }
def FnExactMetaGetCardSaid : Prop := Claim7.holds Tryz.pinned (.plain (OpenSpec.ofChange fnExactMetaGetSpec)) fnExactMetaGetCard

/-- THE SECOND FORM's CARD OF 'laws.FnExactMetaGet'. -/
def fnExactMetaGetUptoCard : Claim7 := { stood := { row := fnExactMetaGetUptoRow, standIns := [], harness := (true, "23b0a8e7bfc2dd2417bc87a9d659098e2903e52891a1bc16db0c217c69426941"), looks := true }, kinds := [], alts := [], laidByText := true, laidKinds := [.data, .data, .data, .data, .sentinel, .sentinel, .pinned], laidTests := true, laidLooks := .later }
def FnExactMetaGetUptoCardSaid : Prop := Claim7.holds Tryz.pinned (.plain (OpenSpec.upto fnExactMetaGetSpec)) fnExactMetaGetUptoCard
end Rows
end Go.Proofs.YtlacpcdbgimnmaaGreatDoor

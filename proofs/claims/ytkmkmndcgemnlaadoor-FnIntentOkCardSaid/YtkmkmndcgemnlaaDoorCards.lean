/-
  DERIVED. GIVEN WITH THE SEED: THE CARDS: each row of YtkmkmndcgemnlaaDoorRows.lean that lists a variable, with what it lists TIED to the program's text (the seventh form; the later family's looks); each row that meets fmt, with fmt's text TOLD by the authors' own Lean function (tested against real Go, not proved from fmt's source: count such statements apart). THE CARD IS WHAT COUNTS. Prove the row's statement (the work); the ties are given (YtkmkmndcgemnlaaDoorTie.lean); close each card by the builder's one call (the guide's Derived/Test/ToyasCard.lean, 'card_holds'). Laid BY PROGRAM, IN A SANDBOX (cutbox-door.mjs). By AI agents, Wed Nov 11 2026. No macro, syntax, notation, axiom, sorry.
-/
import Derived.Test.YtkmkmndcgemnlaaDoorRows
import GoSem.ClaimSeven
namespace Go.Proofs.YtkmkmndcgemnlaaDoor
namespace Rows

/-- THE TIED CARD OF 'laws.FnExactIntentOk'. -/
def fnExactIntentOkCard : Claim7 := { stood := { row := fnExactIntentOkRow, standIns := [], harness := (true, "b8ee61f1c20094009885b898a85523a570b627bf389dda5dd7d48390e7f87bba"), looks := false }, kinds := [], alts := [], laidByText := true, laidKinds := [.data, .pinned], laidTests := true, laidLooks := .later }
def FnExactIntentOkCardSaid : Prop := Claim7.holds Tryd.pinned (.plain (OpenSpec.ofChange fnExactIntentOkSpec)) fnExactIntentOkCard

/-- THE TIED CARD OF 'laws.FnIntentOk'. -/
def fnIntentOkCard : Claim7 := { stood := { row := fnIntentOkRow, standIns := [], harness := (true, "b8ee61f1c20094009885b898a85523a570b627bf389dda5dd7d48390e7f87bba"), looks := false }, kinds := [], alts := [], laidByText := true, laidKinds := [.data, .data, .data, .data, .pinned], laidTests := true, laidLooks := .later }
def FnIntentOkCardSaid : Prop := Claim7.holds Tryd.pinned (.plain (OpenSpec.ofChange fnIntentOkSpec)) fnIntentOkCard

/-- THE TIED CARD OF 'laws.FnExactIntentPut'. -/
def fnExactIntentPutCard : Claim7 := { stood := { row := fnExactIntentPutRow, standIns := [], harness := (true, "b8ee61f1c20094009885b898a85523a570b627bf389dda5dd7d48390e7f87bba"), looks := false }, kinds := [], alts := [], laidByText := true, laidKinds := [.data, .data, .data, .data, .pinned], laidTests := true, laidLooks := .later }
def FnExactIntentPutCardSaid : Prop := Claim7.holds Tryd.pinned (.plain (OpenSpec.ofChange fnExactIntentPutSpec)) fnExactIntentPutCard

/-- THE SECOND FORM's CARD OF 'laws.FnExactIntentOk'. -/
def fnExactIntentOkUptoCard : Claim7 := { stood := { row := fnExactIntentOkUptoRow, standIns := [], harness := (true, "b8ee61f1c20094009885b898a85523a570b627bf389dda5dd7d48390e7f87bba"), looks := false }, kinds := [], alts := [], laidByText := true, laidKinds := [.data, .pinned], laidTests := true, laidLooks := .later }
def FnExactIntentOkUptoCardSaid : Prop := Claim7.holds Tryd.pinned (.plain (OpenSpec.upto fnExactIntentOkSpec)) fnExactIntentOkUptoCard

/-- THE SECOND FORM's CARD OF 'laws.FnIntentOk'. -/
def fnIntentOkUptoCard : Claim7 := { stood := { row := fnIntentOkUptoRow, standIns := [], harness := (true, "b8ee61f1c20094009885b898a85523a570b627bf389dda5dd7d48390e7f87bba"), looks := false }, kinds := [], alts := [], laidByText := true, laidKinds := [.data, .data, .data, .data, .pinned], laidTests := true, laidLooks := .later }
def FnIntentOkUptoCardSaid : Prop := Claim7.holds Tryd.pinned (.plain (OpenSpec.upto fnIntentOkSpec)) fnIntentOkUptoCard

/-- THE SECOND FORM's CARD OF 'laws.FnExactIntentPut'. -/
def fnExactIntentPutUptoCard : Claim7 := { stood := { row := fnExactIntentPutUptoRow, standIns := [], harness := (true, "b8ee61f1c20094009885b898a85523a570b627bf389dda5dd7d48390e7f87bba"), looks := false }, kinds := [], alts := [], laidByText := true, laidKinds := [.data, .data, .data, .data, .pinned], laidTests := true, laidLooks := .later }
def FnExactIntentPutUptoCardSaid : Prop := Claim7.holds Tryd.pinned (.plain (OpenSpec.upto fnExactIntentPutSpec)) fnExactIntentPutUptoCard
end Rows
end Go.Proofs.YtkmkmndcgemnlaaDoor

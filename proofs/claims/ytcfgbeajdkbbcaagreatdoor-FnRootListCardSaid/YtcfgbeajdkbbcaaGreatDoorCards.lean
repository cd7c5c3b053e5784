/-
  DERIVED. GIVEN WITH THE SEED: THE CARDS: each row of YtcfgbeajdkbbcaaGreatDoorRows.lean that lists a variable, with what it lists TIED to the program's text (the seventh form; the later family's looks); each row that meets fmt, with fmt's text TOLD by the authors' own Lean function (tested against real Go, not proved from fmt's source: count such statements apart). THE CARD IS WHAT COUNTS. Prove the row's statement (the work); the ties are given (YtcfgbeajdkbbcaaGreatDoorTie.lean); close each card by the builder's one call (the guide's Derived/Test/ToyasCard.lean, 'card_holds'). Laid BY PROGRAM, IN A SANDBOX (cutbox-door.mjs). By AI agents, Wed Nov 11 2026. No macro, syntax, notation, axiom, sorry.
-/
import Derived.Test.YtcfgbeajdkbbcaaGreatDoorRows
import GoSem.ClaimSeven
namespace Go.Proofs.YtcfgbeajdkbbcaaGreatDoor
namespace Rows

/-- THE TIED CARD OF 'laws.FnExactRootAt'. -/
def fnExactRootAtCard : Claim7 := { stood := { row := fnExactRootAtRow, standIns := [], harness := (true, "cee4f87b61f3752c00eae532b9f5557ea9b38ab78959f7a0d246e5a609eb141c"), looks := true }, kinds := [], alts := [], laidByText := true, laidKinds := [.data, .data, .data, .data, .sentinel, .sentinel, .pinned], laidTests := true, laidLooks := .later }
def FnExactRootAtCardSaid : Prop := Claim7.holds Tryz.pinned (.plain (OpenSpec.ofChange fnExactRootAtSpec)) fnExactRootAtCard

/-- THE TIED CARD OF 'laws.FnRootAt'. -/
def fnRootAtCard : Claim7 := { stood := { row := fnRootAtRow, standIns := [], harness := (true, "cee4f87b61f3752c00eae532b9f5557ea9b38ab78959f7a0d246e5a609eb141c"), looks := true }, kinds := [], alts := [], laidByText := true, laidKinds := [.data, .data, .data, .data, .sentinel, .sentinel, .pinned], laidTests := true, laidLooks := .later }
def FnRootAtCardSaid : Prop := Claim7.holds Tryz.pinned (.plain (OpenSpec.ofChange fnRootAtSpec)) fnRootAtCard

/-- THE TIED CARD OF 'laws.FnExactRootList'. -/
def fnExactRootListCard : Claim7 := { stood := { row := fnExactRootListRow, standIns := [], harness := (true, "cee4f87b61f3752c00eae532b9f5557ea9b38ab78959f7a0d246e5a609eb141c"), looks := true }, kinds := [], alts := [], laidByText := true, laidKinds := [.data, .data, .data, .data, .sentinel, .sentinel, .pinned], laidTests := true, laidLooks := .later }
def FnExactRootListCardSaid : Prop := Claim7.holds Tryz.pinned (.plain (OpenSpec.ofChange fnExactRootListSpec)) fnExactRootListCard

/-- THE TIED CARD OF 'laws.FnRootList'. -/
def fnRootListCard : Claim7 := { stood := { row := fnRootListRow, standIns := [], harness := (true, "cee4f87b61f3752c00eae532b9f5557ea9b38ab78959f7a0d246e5a609eb141c"), looks := true }, kinds := [], alts := [], laidByText := true, laidKinds := [.data, .data, .data, .data, .sentinel, .sentinel, .pinned], laidTests := true, laidLooks := .later }
def FnRootListCardSaid : Prop := Claim7.holds Tryz.pinned (.plain (OpenSpec.ofChange fnRootListSpec)) fnRootListCard

/-- THE SECOND FORM's CARD OF 'laws.FnExactRootAt'. -/
def fnExactRootAtUptoCard : Claim7 := { stood := { row := fnExactRootAtUptoRow, standIns := [], harness := (true, "cee4f87b61f3752c00eae532b9f5557ea9b38ab78959f7a0d246e5a609eb141c"), looks := true }, kinds := [], alts := [], laidByText := true, laidKinds := [.data, .data, .data, .data, .sentinel, .sentinel, .pinned], laidTests := true, laidLooks := .later }
def FnExactRootAtUptoCardSaid : Prop := Claim7.holds Tryz.pinned (.plain (OpenSpec.upto fnExactRootAtSpec)) fnExactRootAtUptoCard

/-- THE SECOND FORM's CARD OF 'laws.FnRootAt'. -/
def fnRootAtUptoCard : Claim7 := { stood := { row := fnRootAtUptoRow, standIns := [], harness := (true, "cee4f87b61f3752c00eae532b9f5557ea9b38ab78959f7a0d246e5a609eb141c"), looks := true }, kinds := [], alts := [], laidByText := true, laidKinds := [.data, .data, .data, .data, .sentinel, .sentinel, .pinned], laidTests := true, laidLooks := .later }
def FnRootAtUptoCardSaid : Prop := Claim7.holds Tryz.pinned (.plain (OpenSpec.upto fnRootAtSpec)) fnRootAtUptoCard

/-- THE SECOND FORM's CARD OF 'laws.FnExactRootList'. -/
def fnExactRootListUptoCard : Claim7 := { stood := { row := fnExactRootListUptoRow, standIns := [], harness := (true, "cee4f87b61f3752c00eae532b9f5557ea9b38ab78959f7a0d246e5a609eb141c"), looks := true }, kinds := [], alts := [], laidByText := true, laidKinds := [.data, .data, .data, .data, .sentinel, .sentinel, .pinned], laidTests := true, laidLooks := .later }
def FnExactRootListUptoCardSaid : Prop := Claim7.holds Tryz.pinned (.plain (OpenSpec.upto fnExactRootListSpec)) fnExactRootListUptoCard

/-- THE SECOND FORM's CARD OF 'laws.FnRootList'. -/
def fnRootListUptoCard : Claim7 := { stood := { row := fnRootListUptoRow, standIns := [], harness := (true, "cee4f87b61f3752c00eae532b9f5557ea9b38ab78959f7a0d246e5a609eb141c"), looks := true }, kinds := [], alts := [], laidByText := true, laidKinds := [.data, .data, .data, .data, .sentinel, .sentinel, .pinned], laidTests := true, laidLooks := .later }
def FnRootListUptoCardSaid : Prop := Claim7.holds Tryz.pinned (.plain (OpenSpec.upto fnRootListSpec)) fnRootListUptoCard
end Rows
end Go.Proofs.YtcfgbeajdkbbcaaGreatDoor

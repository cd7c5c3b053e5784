/-
  No cell of these rows narrows 'for every input' (looked for: loops, veiled, ifaces, maps, wideKeys, modest, calm, conditions, laid).
  DERIVED. THE GIVEN ROWS OF THIS SEAT. 10 by the template 'for every input the law returns true; each argument reads behind the call as it read before'; 0 by the template 'total and deterministic' (their statements: YtbfdbkidmakapaaTotals.lean).
  GIVEN WITH THE SEED: the statements are not yours to turn. If you find one false, say at which input.
  Laid BY PROGRAM, IN A SANDBOX (cutbox-rows.mjs): the forced cells as the released guide's own fill.sh prints them over the translation 6013cb0267b467b4… (all of the seat's roots in one cut). By AI agents, Wed Nov 11 2026. No macro, syntax, notation, axiom, sorry.
-/
import Derived.Test.YtbfdbkidmakapaaChecked
import GoSem.Claim
import GoSem.ClaimJoined
import GoSem.ClaimMapViews
import Derived.JoinedTies
import Derived.KernelRfl
namespace Go.Proofs.Ytbfdbkidmakapaa
/- THE CELL 'sum', in the pinned program and in every row, IS THE sha256 OF THE DUMP (.gsa) THAT YtbfdbkidmakapaaProg.lean LOADS. Nothing in Lean hashes anything: it is a label: what it is worth is what the hold of that sum in a sandbox is worth. -/
noncomputable def Try.pinned : Pinned := { name := "ytbfdbkidmakapaa", sum := "6013cb0267b467b4c5a5e832b2b6c9c2cb7453104ac6ccec0a894e085556a80a", checked := Try.checked }
namespace Rows
def none {H : Type} : Left H := { results := [], args := [] }

/-- 'laws.FnSpaceNew': WHATEVER THE INPUT: true; the input reads as it did. -/
def fnSpaceNewSpec : ChangeSpec := { name := "fnSpaceNew", fn := fun _ => fun
  | [d] => { results := [.lit (.bool true)], args := [d] }
  | _ => none }
def fnSpaceNewRow : OpenClaim := { program := "ytbfdbkidmakapaa", sum := "6013cb0267b467b4c5a5e832b2b6c9c2cb7453104ac6ccec0a894e085556a80a", func := "loop.example/poolfiles/laws.FnSpaceNew", spec := "fnSpaceNew", apart := false }
def FnSpaceNewSaid : Prop := fnSpaceNewRow.holds Try.pinned (OpenSpec.ofChange fnSpaceNewSpec)

/-- ITS FALSE NEIGHBOUR: 'it returns false'. Refute it at one input. -/
def fnSpaceNewWrong : ChangeSpec := { name := "fnSpaceNew", fn := fun _ => fun
  | [d] => { results := [.lit (.bool false)], args := [d] }
  | _ => none }
def FnSpaceNewWrongFalsely : Prop := fnSpaceNewRow.holds Try.pinned (OpenSpec.ofChange fnSpaceNewWrong)

/-- 'laws.FnSpaceOk': WHATEVER THE INPUT: true; the input reads as it did. -/
def fnSpaceOkSpec : ChangeSpec := { name := "fnSpaceOk", fn := fun _ => fun
  | [d] => { results := [.lit (.bool true)], args := [d] }
  | _ => none }
def fnSpaceOkRow : OpenClaim := { program := "ytbfdbkidmakapaa", sum := "6013cb0267b467b4c5a5e832b2b6c9c2cb7453104ac6ccec0a894e085556a80a", func := "loop.example/poolfiles/laws.FnSpaceOk", spec := "fnSpaceOk", apart := false }
def FnSpaceOkSaid : Prop := fnSpaceOkRow.holds Try.pinned (OpenSpec.ofChange fnSpaceOkSpec)

/-- ITS FALSE NEIGHBOUR: 'it returns false'. Refute it at one input. -/
def fnSpaceOkWrong : ChangeSpec := { name := "fnSpaceOk", fn := fun _ => fun
  | [d] => { results := [.lit (.bool false)], args := [d] }
  | _ => none }
def FnSpaceOkWrongFalsely : Prop := fnSpaceOkRow.holds Try.pinned (OpenSpec.ofChange fnSpaceOkWrong)

/-- 'laws.FnExactSpaceRoom': WHATEVER THE INPUT: true; the input reads as it did. -/
def fnExactSpaceRoomSpec : ChangeSpec := { name := "fnExactSpaceRoom", fn := fun _ => fun
  | [d] => { results := [.lit (.bool true)], args := [d] }
  | _ => none }
def fnExactSpaceRoomRow : OpenClaim := { program := "ytbfdbkidmakapaa", sum := "6013cb0267b467b4c5a5e832b2b6c9c2cb7453104ac6ccec0a894e085556a80a", func := "loop.example/poolfiles/laws.FnExactSpaceRoom", spec := "fnExactSpaceRoom", apart := false }
def FnExactSpaceRoomSaid : Prop := fnExactSpaceRoomRow.holds Try.pinned (OpenSpec.ofChange fnExactSpaceRoomSpec)

/-- ITS FALSE NEIGHBOUR: 'it returns false'. Refute it at one input. -/
def fnExactSpaceRoomWrong : ChangeSpec := { name := "fnExactSpaceRoom", fn := fun _ => fun
  | [d] => { results := [.lit (.bool false)], args := [d] }
  | _ => none }
def FnExactSpaceRoomWrongFalsely : Prop := fnExactSpaceRoomRow.holds Try.pinned (OpenSpec.ofChange fnExactSpaceRoomWrong)

/-- 'laws.FnSpaceOrder': WHATEVER THE INPUT: true; the input reads as it did. -/
def fnSpaceOrderSpec : ChangeSpec := { name := "fnSpaceOrder", fn := fun _ => fun
  | [d1, d2] => { results := [.lit (.bool true)], args := [d1, d2] }
  | _ => none }
def fnSpaceOrderRow : OpenClaim := { program := "ytbfdbkidmakapaa", sum := "6013cb0267b467b4c5a5e832b2b6c9c2cb7453104ac6ccec0a894e085556a80a", func := "loop.example/poolfiles/laws.FnSpaceOrder", spec := "fnSpaceOrder", apart := false }
def FnSpaceOrderSaid : Prop := fnSpaceOrderRow.holds Try.pinned (OpenSpec.ofChange fnSpaceOrderSpec)

/-- ITS FALSE NEIGHBOUR: 'it returns false'. Refute it at one input. -/
def fnSpaceOrderWrong : ChangeSpec := { name := "fnSpaceOrder", fn := fun _ => fun
  | [d1, d2] => { results := [.lit (.bool false)], args := [d1, d2] }
  | _ => none }
def FnSpaceOrderWrongFalsely : Prop := fnSpaceOrderRow.holds Try.pinned (OpenSpec.ofChange fnSpaceOrderWrong)

/-- 'laws.FnSpaceRoom': WHATEVER THE INPUT: true; the input reads as it did. -/
def fnSpaceRoomSpec : ChangeSpec := { name := "fnSpaceRoom", fn := fun _ => fun
  | [d] => { results := [.lit (.bool true)], args := [d] }
  | _ => none }
def fnSpaceRoomRow : OpenClaim := { program := "ytbfdbkidmakapaa", sum := "6013cb0267b467b4c5a5e832b2b6c9c2cb7453104ac6ccec0a894e085556a80a", func := "loop.example/poolfiles/laws.FnSpaceRoom", spec := "fnSpaceRoom", apart := false }
def FnSpaceRoomSaid : Prop := fnSpaceRoomRow.holds Try.pinned (OpenSpec.ofChange fnSpaceRoomSpec)

/-- ITS FALSE NEIGHBOUR: 'it returns false'. Refute it at one input. -/
def fnSpaceRoomWrong : ChangeSpec := { name := "fnSpaceRoom", fn := fun _ => fun
  | [d] => { results := [.lit (.bool false)], args := [d] }
  | _ => none }
def FnSpaceRoomWrongFalsely : Prop := fnSpaceRoomRow.holds Try.pinned (OpenSpec.ofChange fnSpaceRoomWrong)

/-- 'laws.FnExactSpaceTake': WHATEVER THE INPUT: true; the input reads as it did. -/
def fnExactSpaceTakeSpec : ChangeSpec := { name := "fnExactSpaceTake", fn := fun _ => fun
  | [d1, d2, d3] => { results := [.lit (.bool true)], args := [d1, d2, d3] }
  | _ => none }
def fnExactSpaceTakeRow : OpenClaim := { program := "ytbfdbkidmakapaa", sum := "6013cb0267b467b4c5a5e832b2b6c9c2cb7453104ac6ccec0a894e085556a80a", func := "loop.example/poolfiles/laws.FnExactSpaceTake", spec := "fnExactSpaceTake", apart := false }
def FnExactSpaceTakeSaid : Prop := fnExactSpaceTakeRow.holds Try.pinned (OpenSpec.ofChange fnExactSpaceTakeSpec)

/-- ITS FALSE NEIGHBOUR: 'it returns false'. Refute it at one input. -/
def fnExactSpaceTakeWrong : ChangeSpec := { name := "fnExactSpaceTake", fn := fun _ => fun
  | [d1, d2, d3] => { results := [.lit (.bool false)], args := [d1, d2, d3] }
  | _ => none }
def FnExactSpaceTakeWrongFalsely : Prop := fnExactSpaceTakeRow.holds Try.pinned (OpenSpec.ofChange fnExactSpaceTakeWrong)

/-- 'laws.FnExactSpaceGive': WHATEVER THE INPUT: true; the input reads as it did. -/
def fnExactSpaceGiveSpec : ChangeSpec := { name := "fnExactSpaceGive", fn := fun _ => fun
  | [d1, d2] => { results := [.lit (.bool true)], args := [d1, d2] }
  | _ => none }
def fnExactSpaceGiveRow : OpenClaim := { program := "ytbfdbkidmakapaa", sum := "6013cb0267b467b4c5a5e832b2b6c9c2cb7453104ac6ccec0a894e085556a80a", func := "loop.example/poolfiles/laws.FnExactSpaceGive", spec := "fnExactSpaceGive", apart := false }
def FnExactSpaceGiveSaid : Prop := fnExactSpaceGiveRow.holds Try.pinned (OpenSpec.ofChange fnExactSpaceGiveSpec)

/-- ITS FALSE NEIGHBOUR: 'it returns false'. Refute it at one input. -/
def fnExactSpaceGiveWrong : ChangeSpec := { name := "fnExactSpaceGive", fn := fun _ => fun
  | [d1, d2] => { results := [.lit (.bool false)], args := [d1, d2] }
  | _ => none }
def FnExactSpaceGiveWrongFalsely : Prop := fnExactSpaceGiveRow.holds Try.pinned (OpenSpec.ofChange fnExactSpaceGiveWrong)

/-- 'laws.FnSpaceTake': WHATEVER THE INPUT: true; the input reads as it did. -/
def fnSpaceTakeSpec : ChangeSpec := { name := "fnSpaceTake", fn := fun _ => fun
  | [d] => { results := [.lit (.bool true)], args := [d] }
  | _ => none }
def fnSpaceTakeRow : OpenClaim := { program := "ytbfdbkidmakapaa", sum := "6013cb0267b467b4c5a5e832b2b6c9c2cb7453104ac6ccec0a894e085556a80a", func := "loop.example/poolfiles/laws.FnSpaceTake", spec := "fnSpaceTake", apart := false }
def FnSpaceTakeSaid : Prop := fnSpaceTakeRow.holds Try.pinned (OpenSpec.ofChange fnSpaceTakeSpec)

/-- ITS FALSE NEIGHBOUR: 'it returns false'. Refute it at one input. -/
def fnSpaceTakeWrong : ChangeSpec := { name := "fnSpaceTake", fn := fun _ => fun
  | [d] => { results := [.lit (.bool false)], args := [d] }
  | _ => none }
def FnSpaceTakeWrongFalsely : Prop := fnSpaceTakeRow.holds Try.pinned (OpenSpec.ofChange fnSpaceTakeWrong)

/-- 'laws.FnSpaceGive': WHATEVER THE INPUT: true; the input reads as it did. -/
def fnSpaceGiveSpec : ChangeSpec := { name := "fnSpaceGive", fn := fun _ => fun
  | [d] => { results := [.lit (.bool true)], args := [d] }
  | _ => none }
def fnSpaceGiveRow : OpenClaim := { program := "ytbfdbkidmakapaa", sum := "6013cb0267b467b4c5a5e832b2b6c9c2cb7453104ac6ccec0a894e085556a80a", func := "loop.example/poolfiles/laws.FnSpaceGive", spec := "fnSpaceGive", apart := false }
def FnSpaceGiveSaid : Prop := fnSpaceGiveRow.holds Try.pinned (OpenSpec.ofChange fnSpaceGiveSpec)

/-- ITS FALSE NEIGHBOUR: 'it returns false'. Refute it at one input. -/
def fnSpaceGiveWrong : ChangeSpec := { name := "fnSpaceGive", fn := fun _ => fun
  | [d] => { results := [.lit (.bool false)], args := [d] }
  | _ => none }
def FnSpaceGiveWrongFalsely : Prop := fnSpaceGiveRow.holds Try.pinned (OpenSpec.ofChange fnSpaceGiveWrong)

/-- 'laws.FnSpaceFind': WHATEVER THE INPUT: true; the input reads as it did. -/
def fnSpaceFindSpec : ChangeSpec := { name := "fnSpaceFind", fn := fun _ => fun
  | [d] => { results := [.lit (.bool true)], args := [d] }
  | _ => none }
def fnSpaceFindRow : OpenClaim := { program := "ytbfdbkidmakapaa", sum := "6013cb0267b467b4c5a5e832b2b6c9c2cb7453104ac6ccec0a894e085556a80a", func := "loop.example/poolfiles/laws.FnSpaceFind", spec := "fnSpaceFind", apart := false }
def FnSpaceFindSaid : Prop := fnSpaceFindRow.holds Try.pinned (OpenSpec.ofChange fnSpaceFindSpec)

/-- ITS FALSE NEIGHBOUR: 'it returns false'. Refute it at one input. -/
def fnSpaceFindWrong : ChangeSpec := { name := "fnSpaceFind", fn := fun _ => fun
  | [d] => { results := [.lit (.bool false)], args := [d] }
  | _ => none }
def FnSpaceFindWrongFalsely : Prop := fnSpaceFindRow.holds Try.pinned (OpenSpec.ofChange fnSpaceFindWrong)

/- THE SECOND FORM. 'bulk': how many values and letters a reading holds, each counted each time it is reached (what is shared counts as often as it is met; a slice's spare places count too). A statement '..UptoSaid' is the law's where the arguments, and the package variables that the reading takes, are together of bulk at most 1048576: NARROWER than '..Said'. Prove '..Said' where nothing that the law and all that it calls make is longer than what came in: it says more and counts as full. Else prove '..UptoSaid'. A law counts once. -/
mutual
def uptoBulk {H : Type} : DataW H → Nat
  | .lit (.string bytes) => bytes.length + 1
  | .lit _ => 1
  | .nil => 1
  | .ptr d => uptoBulk d + 1
  | .slice elems spare => uptoBulkAll elems + uptoBulkAll spare + 1
  | .agg parts => uptoBulkAll parts + 1
  | .iface _ d => uptoBulk d + 1
  | .map entries => uptoBulkEntries entries + 1
  | .held _ => 1
def uptoBulkAll {H : Type} : List (DataW H) → Nat
  | [] => 0
  | d :: r => uptoBulk d + uptoBulkAll r
def uptoBulkEntries {H : Type} : List (Lit × DataW H) → Nat
  | [] => 0
  | x :: r => uptoBulkEntry x + uptoBulkEntries r
def uptoBulkEntry {H : Type} : Lit × DataW H → Nat
  | (.string bytes, d) => bytes.length + uptoBulk d + 1
  | (_, d) => uptoBulk d + 1
 end
def uptoSmall : (H : Type) → List (DataW H) → Bool := fun _ ds => decide (uptoBulkAll ds ≤ 1048576)
def OpenSpec.upto (s : _root_.Go.ChangeSpec) : _root_.Go.OpenSpec := { _root_.Go.OpenSpec.ofChange s with cond := some uptoSmall }

/-- 'laws.FnSpaceNew', WHERE WHAT IT READS IS OF BULK AT MOST 1048576: true; the input reads as it did. -/
def fnSpaceNewUptoRow : OpenClaim := { program := "ytbfdbkidmakapaa", sum := "6013cb0267b467b4c5a5e832b2b6c9c2cb7453104ac6ccec0a894e085556a80a", func := "loop.example/poolfiles/laws.FnSpaceNew", spec := "fnSpaceNew", apart := false, narrowed := true }
def FnSpaceNewUptoSaid : Prop := fnSpaceNewUptoRow.holds Try.pinned (OpenSpec.upto fnSpaceNewSpec)

/-- 'laws.FnSpaceOk', WHERE WHAT IT READS IS OF BULK AT MOST 1048576: true; the input reads as it did. -/
def fnSpaceOkUptoRow : OpenClaim := { program := "ytbfdbkidmakapaa", sum := "6013cb0267b467b4c5a5e832b2b6c9c2cb7453104ac6ccec0a894e085556a80a", func := "loop.example/poolfiles/laws.FnSpaceOk", spec := "fnSpaceOk", apart := false, narrowed := true }
def FnSpaceOkUptoSaid : Prop := fnSpaceOkUptoRow.holds Try.pinned (OpenSpec.upto fnSpaceOkSpec)

/-- 'laws.FnExactSpaceRoom', WHERE WHAT IT READS IS OF BULK AT MOST 1048576: true; the input reads as it did. -/
def fnExactSpaceRoomUptoRow : OpenClaim := { program := "ytbfdbkidmakapaa", sum := "6013cb0267b467b4c5a5e832b2b6c9c2cb7453104ac6ccec0a894e085556a80a", func := "loop.example/poolfiles/laws.FnExactSpaceRoom", spec := "fnExactSpaceRoom", apart := false, narrowed := true }
def FnExactSpaceRoomUptoSaid : Prop := fnExactSpaceRoomUptoRow.holds Try.pinned (OpenSpec.upto fnExactSpaceRoomSpec)

/-- 'laws.FnSpaceOrder', WHERE WHAT IT READS IS OF BULK AT MOST 1048576: true; the input reads as it did. -/
def fnSpaceOrderUptoRow : OpenClaim := { program := "ytbfdbkidmakapaa", sum := "6013cb0267b467b4c5a5e832b2b6c9c2cb7453104ac6ccec0a894e085556a80a", func := "loop.example/poolfiles/laws.FnSpaceOrder", spec := "fnSpaceOrder", apart := false, narrowed := true }
def FnSpaceOrderUptoSaid : Prop := fnSpaceOrderUptoRow.holds Try.pinned (OpenSpec.upto fnSpaceOrderSpec)

/-- 'laws.FnSpaceRoom', WHERE WHAT IT READS IS OF BULK AT MOST 1048576: true; the input reads as it did. -/
def fnSpaceRoomUptoRow : OpenClaim := { program := "ytbfdbkidmakapaa", sum := "6013cb0267b467b4c5a5e832b2b6c9c2cb7453104ac6ccec0a894e085556a80a", func := "loop.example/poolfiles/laws.FnSpaceRoom", spec := "fnSpaceRoom", apart := false, narrowed := true }
def FnSpaceRoomUptoSaid : Prop := fnSpaceRoomUptoRow.holds Try.pinned (OpenSpec.upto fnSpaceRoomSpec)

/-- 'laws.FnExactSpaceTake', WHERE WHAT IT READS IS OF BULK AT MOST 1048576: true; the input reads as it did. -/
def fnExactSpaceTakeUptoRow : OpenClaim := { program := "ytbfdbkidmakapaa", sum := "6013cb0267b467b4c5a5e832b2b6c9c2cb7453104ac6ccec0a894e085556a80a", func := "loop.example/poolfiles/laws.FnExactSpaceTake", spec := "fnExactSpaceTake", apart := false, narrowed := true }
def FnExactSpaceTakeUptoSaid : Prop := fnExactSpaceTakeUptoRow.holds Try.pinned (OpenSpec.upto fnExactSpaceTakeSpec)

/-- 'laws.FnExactSpaceGive', WHERE WHAT IT READS IS OF BULK AT MOST 1048576: true; the input reads as it did. -/
def fnExactSpaceGiveUptoRow : OpenClaim := { program := "ytbfdbkidmakapaa", sum := "6013cb0267b467b4c5a5e832b2b6c9c2cb7453104ac6ccec0a894e085556a80a", func := "loop.example/poolfiles/laws.FnExactSpaceGive", spec := "fnExactSpaceGive", apart := false, narrowed := true }
def FnExactSpaceGiveUptoSaid : Prop := fnExactSpaceGiveUptoRow.holds Try.pinned (OpenSpec.upto fnExactSpaceGiveSpec)

/-- 'laws.FnSpaceTake', WHERE WHAT IT READS IS OF BULK AT MOST 1048576: true; the input reads as it did. -/
def fnSpaceTakeUptoRow : OpenClaim := { program := "ytbfdbkidmakapaa", sum := "6013cb0267b467b4c5a5e832b2b6c9c2cb7453104ac6ccec0a894e085556a80a", func := "loop.example/poolfiles/laws.FnSpaceTake", spec := "fnSpaceTake", apart := false, narrowed := true }
def FnSpaceTakeUptoSaid : Prop := fnSpaceTakeUptoRow.holds Try.pinned (OpenSpec.upto fnSpaceTakeSpec)

/-- 'laws.FnSpaceGive', WHERE WHAT IT READS IS OF BULK AT MOST 1048576: true; the input reads as it did. -/
def fnSpaceGiveUptoRow : OpenClaim := { program := "ytbfdbkidmakapaa", sum := "6013cb0267b467b4c5a5e832b2b6c9c2cb7453104ac6ccec0a894e085556a80a", func := "loop.example/poolfiles/laws.FnSpaceGive", spec := "fnSpaceGive", apart := false, narrowed := true }
def FnSpaceGiveUptoSaid : Prop := fnSpaceGiveUptoRow.holds Try.pinned (OpenSpec.upto fnSpaceGiveSpec)

/-- 'laws.FnSpaceFind', WHERE WHAT IT READS IS OF BULK AT MOST 1048576: true; the input reads as it did. -/
def fnSpaceFindUptoRow : OpenClaim := { program := "ytbfdbkidmakapaa", sum := "6013cb0267b467b4c5a5e832b2b6c9c2cb7453104ac6ccec0a894e085556a80a", func := "loop.example/poolfiles/laws.FnSpaceFind", spec := "fnSpaceFind", apart := false, narrowed := true }
def FnSpaceFindUptoSaid : Prop := fnSpaceFindUptoRow.holds Try.pinned (OpenSpec.upto fnSpaceFindSpec)

end Rows
end Go.Proofs.Ytbfdbkidmakapaa

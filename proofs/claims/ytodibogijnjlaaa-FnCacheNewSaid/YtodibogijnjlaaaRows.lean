/-
  No cell of these rows narrows 'for every input' (looked for: loops, veiled, ifaces, maps, wideKeys, modest, calm, conditions, laid).
  DERIVED. THE GIVEN ROWS OF THIS SEAT. 10 by the template 'for every input the law returns true; each argument reads behind the call as it read before'; 0 by the template 'total and deterministic' (their statements: YtodibogijnjlaaaTotals.lean).
  GIVEN WITH THE SEED: the statements are not yours to turn. If you find one false, say at which input.
  Laid BY PROGRAM, IN A SANDBOX (cutbox-rows.mjs): the forced cells as the released guide's own fill.sh prints them over the translation 7c605e62fb1e04f4… (all of the seat's roots in one cut). By AI agents, Wed Nov 11 2026. No macro, syntax, notation, axiom, sorry.
-/
import Derived.Test.YtodibogijnjlaaaChecked
import GoSem.Claim
import GoSem.ClaimJoined
import GoSem.ClaimMapViews
import Derived.JoinedTies
import Derived.KernelRfl
namespace Go.Proofs.Ytodibogijnjlaaa
/- THE CELL 'sum', in the pinned program and in every row, IS THE sha256 OF THE DUMP (.gsa) THAT YtodibogijnjlaaaProg.lean LOADS. Nothing in Lean hashes anything: it is a label: what it is worth is what the hold of that sum in a sandbox is worth. -/
noncomputable def Try.pinned : Pinned := { name := "ytodibogijnjlaaa", sum := "7c605e62fb1e04f41426860256456199da9bcea3c06c2c62ec3561d43bc393d7", checked := Try.checked }
namespace Rows
def none {H : Type} : Left H := { results := [], args := [] }

/-- 'laws.FnExactRootOk': WHATEVER THE INPUT: true; the input reads as it did. -/
def fnExactRootOkSpec : ChangeSpec := { name := "fnExactRootOk", fn := fun _ => fun
  | [d] => { results := [.lit (.bool true)], args := [d] }
  | _ => none }
def fnExactRootOkRow : OpenClaim := { program := "ytodibogijnjlaaa", sum := "7c605e62fb1e04f41426860256456199da9bcea3c06c2c62ec3561d43bc393d7", func := "loop.example/poolfiles/laws.FnExactRootOk", spec := "fnExactRootOk", apart := false }
def FnExactRootOkSaid : Prop := fnExactRootOkRow.holds Try.pinned (OpenSpec.ofChange fnExactRootOkSpec)

/-- ITS FALSE NEIGHBOUR: 'it returns false'. Refute it at one input. -/
def fnExactRootOkWrong : ChangeSpec := { name := "fnExactRootOk", fn := fun _ => fun
  | [d] => { results := [.lit (.bool false)], args := [d] }
  | _ => none }
def FnExactRootOkWrongFalsely : Prop := fnExactRootOkRow.holds Try.pinned (OpenSpec.ofChange fnExactRootOkWrong)

/-- 'laws.FnExactCacheNew': WHATEVER THE INPUT: true; the input reads as it did. -/
def fnExactCacheNewSpec : ChangeSpec := { name := "fnExactCacheNew", fn := fun _ => fun
  | [d] => { results := [.lit (.bool true)], args := [d] }
  | _ => none }
def fnExactCacheNewRow : OpenClaim := { program := "ytodibogijnjlaaa", sum := "7c605e62fb1e04f41426860256456199da9bcea3c06c2c62ec3561d43bc393d7", func := "loop.example/poolfiles/laws.FnExactCacheNew", spec := "fnExactCacheNew", apart := false }
def FnExactCacheNewSaid : Prop := fnExactCacheNewRow.holds Try.pinned (OpenSpec.ofChange fnExactCacheNewSpec)

/-- ITS FALSE NEIGHBOUR: 'it returns false'. Refute it at one input. -/
def fnExactCacheNewWrong : ChangeSpec := { name := "fnExactCacheNew", fn := fun _ => fun
  | [d] => { results := [.lit (.bool false)], args := [d] }
  | _ => none }
def FnExactCacheNewWrongFalsely : Prop := fnExactCacheNewRow.holds Try.pinned (OpenSpec.ofChange fnExactCacheNewWrong)

/-- 'laws.FnCacheNew': WHATEVER THE INPUT: true; the input reads as it did. -/
def fnCacheNewSpec : ChangeSpec := { name := "fnCacheNew", fn := fun _ => fun
  | [d] => { results := [.lit (.bool true)], args := [d] }
  | _ => none }
def fnCacheNewRow : OpenClaim := { program := "ytodibogijnjlaaa", sum := "7c605e62fb1e04f41426860256456199da9bcea3c06c2c62ec3561d43bc393d7", func := "loop.example/poolfiles/laws.FnCacheNew", spec := "fnCacheNew", apart := false }
def FnCacheNewSaid : Prop := fnCacheNewRow.holds Try.pinned (OpenSpec.ofChange fnCacheNewSpec)

/-- ITS FALSE NEIGHBOUR: 'it returns false'. Refute it at one input. -/
def fnCacheNewWrong : ChangeSpec := { name := "fnCacheNew", fn := fun _ => fun
  | [d] => { results := [.lit (.bool false)], args := [d] }
  | _ => none }
def FnCacheNewWrongFalsely : Prop := fnCacheNewRow.holds Try.pinned (OpenSpec.ofChange fnCacheNewWrong)

/-- 'laws.FnExactCacheOk': WHATEVER THE INPUT: true; the input reads as it did. -/
def fnExactCacheOkSpec : ChangeSpec := { name := "fnExactCacheOk", fn := fun _ => fun
  | [d] => { results := [.lit (.bool true)], args := [d] }
  | _ => none }
def fnExactCacheOkRow : OpenClaim := { program := "ytodibogijnjlaaa", sum := "7c605e62fb1e04f41426860256456199da9bcea3c06c2c62ec3561d43bc393d7", func := "loop.example/poolfiles/laws.FnExactCacheOk", spec := "fnExactCacheOk", apart := false }
def FnExactCacheOkSaid : Prop := fnExactCacheOkRow.holds Try.pinned (OpenSpec.ofChange fnExactCacheOkSpec)

/-- ITS FALSE NEIGHBOUR: 'it returns false'. Refute it at one input. -/
def fnExactCacheOkWrong : ChangeSpec := { name := "fnExactCacheOk", fn := fun _ => fun
  | [d] => { results := [.lit (.bool false)], args := [d] }
  | _ => none }
def FnExactCacheOkWrongFalsely : Prop := fnExactCacheOkRow.holds Try.pinned (OpenSpec.ofChange fnExactCacheOkWrong)

/-- 'laws.FnExactCacheHas': WHATEVER THE INPUT: true; the input reads as it did. -/
def fnExactCacheHasSpec : ChangeSpec := { name := "fnExactCacheHas", fn := fun _ => fun
  | [d1, d2] => { results := [.lit (.bool true)], args := [d1, d2] }
  | _ => none }
def fnExactCacheHasRow : OpenClaim := { program := "ytodibogijnjlaaa", sum := "7c605e62fb1e04f41426860256456199da9bcea3c06c2c62ec3561d43bc393d7", func := "loop.example/poolfiles/laws.FnExactCacheHas", spec := "fnExactCacheHas", apart := false }
def FnExactCacheHasSaid : Prop := fnExactCacheHasRow.holds Try.pinned (OpenSpec.ofChange fnExactCacheHasSpec)

/-- ITS FALSE NEIGHBOUR: 'it returns false'. Refute it at one input. -/
def fnExactCacheHasWrong : ChangeSpec := { name := "fnExactCacheHas", fn := fun _ => fun
  | [d1, d2] => { results := [.lit (.bool false)], args := [d1, d2] }
  | _ => none }
def FnExactCacheHasWrongFalsely : Prop := fnExactCacheHasRow.holds Try.pinned (OpenSpec.ofChange fnExactCacheHasWrong)

/-- 'laws.FnCacheHas': WHATEVER THE INPUT: true; the input reads as it did. -/
def fnCacheHasSpec : ChangeSpec := { name := "fnCacheHas", fn := fun _ => fun
  | [d] => { results := [.lit (.bool true)], args := [d] }
  | _ => none }
def fnCacheHasRow : OpenClaim := { program := "ytodibogijnjlaaa", sum := "7c605e62fb1e04f41426860256456199da9bcea3c06c2c62ec3561d43bc393d7", func := "loop.example/poolfiles/laws.FnCacheHas", spec := "fnCacheHas", apart := false }
def FnCacheHasSaid : Prop := fnCacheHasRow.holds Try.pinned (OpenSpec.ofChange fnCacheHasSpec)

/-- ITS FALSE NEIGHBOUR: 'it returns false'. Refute it at one input. -/
def fnCacheHasWrong : ChangeSpec := { name := "fnCacheHas", fn := fun _ => fun
  | [d] => { results := [.lit (.bool false)], args := [d] }
  | _ => none }
def FnCacheHasWrongFalsely : Prop := fnCacheHasRow.holds Try.pinned (OpenSpec.ofChange fnCacheHasWrong)

/-- 'laws.FnCacheLoop': WHATEVER THE INPUT: true; the input reads as it did. -/
def fnCacheLoopSpec : ChangeSpec := { name := "fnCacheLoop", fn := fun _ => fun
  | [d] => { results := [.lit (.bool true)], args := [d] }
  | _ => none }
def fnCacheLoopRow : OpenClaim := { program := "ytodibogijnjlaaa", sum := "7c605e62fb1e04f41426860256456199da9bcea3c06c2c62ec3561d43bc393d7", func := "loop.example/poolfiles/laws.FnCacheLoop", spec := "fnCacheLoop", inPlace := ["slices.overlaps[int]"], apart := false }
def FnCacheLoopSaid : Prop := fnCacheLoopRow.holds Try.pinned (OpenSpec.ofChange fnCacheLoopSpec)

/-- ITS FALSE NEIGHBOUR: 'it returns false'. Refute it at one input. -/
def fnCacheLoopWrong : ChangeSpec := { name := "fnCacheLoop", fn := fun _ => fun
  | [d] => { results := [.lit (.bool false)], args := [d] }
  | _ => none }
def FnCacheLoopWrongFalsely : Prop := fnCacheLoopRow.holds Try.pinned (OpenSpec.ofChange fnCacheLoopWrong)

/-- 'laws.FnCacheOk': WHATEVER THE INPUT: true; the input reads as it did. -/
def fnCacheOkSpec : ChangeSpec := { name := "fnCacheOk", fn := fun _ => fun
  | [d] => { results := [.lit (.bool true)], args := [d] }
  | _ => none }
def fnCacheOkRow : OpenClaim := { program := "ytodibogijnjlaaa", sum := "7c605e62fb1e04f41426860256456199da9bcea3c06c2c62ec3561d43bc393d7", func := "loop.example/poolfiles/laws.FnCacheOk", spec := "fnCacheOk", inPlace := ["slices.overlaps[int]"], apart := false }
def FnCacheOkSaid : Prop := fnCacheOkRow.holds Try.pinned (OpenSpec.ofChange fnCacheOkSpec)

/-- ITS FALSE NEIGHBOUR: 'it returns false'. Refute it at one input. -/
def fnCacheOkWrong : ChangeSpec := { name := "fnCacheOk", fn := fun _ => fun
  | [d] => { results := [.lit (.bool false)], args := [d] }
  | _ => none }
def FnCacheOkWrongFalsely : Prop := fnCacheOkRow.holds Try.pinned (OpenSpec.ofChange fnCacheOkWrong)

/-- 'laws.FnExactFlatSame': WHATEVER THE INPUT: true; the input reads as it did. -/
def fnExactFlatSameSpec : ChangeSpec := { name := "fnExactFlatSame", fn := fun _ => fun
  | [d1, d2] => { results := [.lit (.bool true)], args := [d1, d2] }
  | _ => none }
def fnExactFlatSameRow : OpenClaim := { program := "ytodibogijnjlaaa", sum := "7c605e62fb1e04f41426860256456199da9bcea3c06c2c62ec3561d43bc393d7", func := "loop.example/poolfiles/laws.FnExactFlatSame", spec := "fnExactFlatSame", apart := false }
def FnExactFlatSameSaid : Prop := fnExactFlatSameRow.holds Try.pinned (OpenSpec.ofChange fnExactFlatSameSpec)

/-- ITS FALSE NEIGHBOUR: 'it returns false'. Refute it at one input. -/
def fnExactFlatSameWrong : ChangeSpec := { name := "fnExactFlatSame", fn := fun _ => fun
  | [d1, d2] => { results := [.lit (.bool false)], args := [d1, d2] }
  | _ => none }
def FnExactFlatSameWrongFalsely : Prop := fnExactFlatSameRow.holds Try.pinned (OpenSpec.ofChange fnExactFlatSameWrong)

/-- 'laws.FnExactMetaSame': WHATEVER THE INPUT: true; the input reads as it did. -/
def fnExactMetaSameSpec : ChangeSpec := { name := "fnExactMetaSame", fn := fun _ => fun
  | [d1, d2] => { results := [.lit (.bool true)], args := [d1, d2] }
  | _ => none }
def fnExactMetaSameRow : OpenClaim := { program := "ytodibogijnjlaaa", sum := "7c605e62fb1e04f41426860256456199da9bcea3c06c2c62ec3561d43bc393d7", func := "loop.example/poolfiles/laws.FnExactMetaSame", spec := "fnExactMetaSame", unfollowed := true, recurses := true, apart := false }
def FnExactMetaSameSaid : Prop := fnExactMetaSameRow.holds Try.pinned (OpenSpec.ofChange fnExactMetaSameSpec)

/-- ITS FALSE NEIGHBOUR: 'it returns false'. Refute it at one input. -/
def fnExactMetaSameWrong : ChangeSpec := { name := "fnExactMetaSame", fn := fun _ => fun
  | [d1, d2] => { results := [.lit (.bool false)], args := [d1, d2] }
  | _ => none }
def FnExactMetaSameWrongFalsely : Prop := fnExactMetaSameRow.holds Try.pinned (OpenSpec.ofChange fnExactMetaSameWrong)

/- THE SECOND FORM. 'bulk': how many values and letters a reading holds, each counted each time it is reached (what is shared counts as often as it is met; a slice's spare places count too). A statement '..UptoSaid' is the law's where the arguments, and the package variables that the reading takes, are together of bulk at most 1048576: NARROWER than '..Said'. Prove '..Said' where nothing that the law and all that it calls make is longer than what came in: it says more and counts as full. Else prove '..UptoSaid'. A law counts once. -/
mutual
def uptoBulk {H : Type} : DataW H → Nat
  | .lit (.string bytes) => bytes.length + 1
  | .lit _ => 1
  | .nil => 1
  | .ptr d => uptoBulk d + 1
  | .slice elems spare => uptoBulkAll elems + uptoBulkAll spare + 1
  | .agg parts => uptoBulkAll parts + 1
  | .iface _ d => uptoBulk d + 1
  | .map entries => uptoBulkEntries entries + 1
  | .held _ => 1
def uptoBulkAll {H : Type} : List (DataW H) → Nat
  | [] => 0
  | d :: r => uptoBulk d + uptoBulkAll r
def uptoBulkEntries {H : Type} : List (Lit × DataW H) → Nat
  | [] => 0
  | x :: r => uptoBulkEntry x + uptoBulkEntries r
def uptoBulkEntry {H : Type} : Lit × DataW H → Nat
  | (.string bytes, d) => bytes.length + uptoBulk d + 1
  | (_, d) => uptoBulk d + 1
 end
def uptoSmall : (H : Type) → List (DataW H) → Bool := fun _ ds => decide (uptoBulkAll ds ≤ 1048576)
def OpenSpec.upto (s : _root_.Go.ChangeSpec) : _root_.Go.OpenSpec := { _root_.Go.OpenSpec.ofChange s with cond := some uptoSmall }

/-- 'laws.FnExactRootOk', WHERE WHAT IT READS IS OF BULK AT MOST 1048576: true; the input reads as it did. -/
def fnExactRootOkUptoRow : OpenClaim := { program := "ytodibogijnjlaaa", sum := "7c605e62fb1e04f41426860256456199da9bcea3c06c2c62ec3561d43bc393d7", func := "loop.example/poolfiles/laws.FnExactRootOk", spec := "fnExactRootOk", apart := false, narrowed := true }
def FnExactRootOkUptoSaid : Prop := fnExactRootOkUptoRow.holds Try.pinned (OpenSpec.upto fnExactRootOkSpec)

/-- 'laws.FnExactCacheNew', WHERE WHAT IT READS IS OF BULK AT MOST 1048576: true; the input reads as it did. -/
def fnExactCacheNewUptoRow : OpenClaim := { program := "ytodibogijnjlaaa", sum := "7c605e62fb1e04f41426860256456199da9bcea3c06c2c62ec3561d43bc393d7", func := "loop.example/poolfiles/laws.FnExactCacheNew", spec := "fnExactCacheNew", apart := false, narrowed := true }
def FnExactCacheNewUptoSaid : Prop := fnExactCacheNewUptoRow.holds Try.pinned (OpenSpec.upto fnExactCacheNewSpec)

/-- 'laws.FnCacheNew', WHERE WHAT IT READS IS OF BULK AT MOST 1048576: true; the input reads as it did. -/
def fnCacheNewUptoRow : OpenClaim := { program := "ytodibogijnjlaaa", sum := "7c605e62fb1e04f41426860256456199da9bcea3c06c2c62ec3561d43bc393d7", func := "loop.example/poolfiles/laws.FnCacheNew", spec := "fnCacheNew", apart := false, narrowed := true }
def FnCacheNewUptoSaid : Prop := fnCacheNewUptoRow.holds Try.pinned (OpenSpec.upto fnCacheNewSpec)

/-- 'laws.FnExactCacheOk', WHERE WHAT IT READS IS OF BULK AT MOST 1048576: true; the input reads as it did. -/
def fnExactCacheOkUptoRow : OpenClaim := { program := "ytodibogijnjlaaa", sum := "7c605e62fb1e04f41426860256456199da9bcea3c06c2c62ec3561d43bc393d7", func := "loop.example/poolfiles/laws.FnExactCacheOk", spec := "fnExactCacheOk", apart := false, narrowed := true }
def FnExactCacheOkUptoSaid : Prop := fnExactCacheOkUptoRow.holds Try.pinned (OpenSpec.upto fnExactCacheOkSpec)

/-- 'laws.FnExactCacheHas', WHERE WHAT IT READS IS OF BULK AT MOST 1048576: true; the input reads as it did. -/
def fnExactCacheHasUptoRow : OpenClaim := { program := "ytodibogijnjlaaa", sum := "7c605e62fb1e04f41426860256456199da9bcea3c06c2c62ec3561d43bc393d7", func := "loop.example/poolfiles/laws.FnExactCacheHas", spec := "fnExactCacheHas", apart := false, narrowed := true }
def FnExactCacheHasUptoSaid : Prop := fnExactCacheHasUptoRow.holds Try.pinned (OpenSpec.upto fnExactCacheHasSpec)

/-- 'laws.FnCacheHas', WHERE WHAT IT READS IS OF BULK AT MOST 1048576: true; the input reads as it did. -/
def fnCacheHasUptoRow : OpenClaim := { program := "ytodibogijnjlaaa", sum := "7c605e62fb1e04f41426860256456199da9bcea3c06c2c62ec3561d43bc393d7", func := "loop.example/poolfiles/laws.FnCacheHas", spec := "fnCacheHas", apart := false, narrowed := true }
def FnCacheHasUptoSaid : Prop := fnCacheHasUptoRow.holds Try.pinned (OpenSpec.upto fnCacheHasSpec)

/-- 'laws.FnCacheLoop', WHERE WHAT IT READS IS OF BULK AT MOST 1048576: true; the input reads as it did. -/
def fnCacheLoopUptoRow : OpenClaim := { program := "ytodibogijnjlaaa", sum := "7c605e62fb1e04f41426860256456199da9bcea3c06c2c62ec3561d43bc393d7", func := "loop.example/poolfiles/laws.FnCacheLoop", spec := "fnCacheLoop", inPlace := ["slices.overlaps[int]"], apart := false, narrowed := true }
def FnCacheLoopUptoSaid : Prop := fnCacheLoopUptoRow.holds Try.pinned (OpenSpec.upto fnCacheLoopSpec)

/-- 'laws.FnCacheOk', WHERE WHAT IT READS IS OF BULK AT MOST 1048576: true; the input reads as it did. -/
def fnCacheOkUptoRow : OpenClaim := { program := "ytodibogijnjlaaa", sum := "7c605e62fb1e04f41426860256456199da9bcea3c06c2c62ec3561d43bc393d7", func := "loop.example/poolfiles/laws.FnCacheOk", spec := "fnCacheOk", inPlace := ["slices.overlaps[int]"], apart := false, narrowed := true }
def FnCacheOkUptoSaid : Prop := fnCacheOkUptoRow.holds Try.pinned (OpenSpec.upto fnCacheOkSpec)

/-- 'laws.FnExactFlatSame', WHERE WHAT IT READS IS OF BULK AT MOST 1048576: true; the input reads as it did. -/
def fnExactFlatSameUptoRow : OpenClaim := { program := "ytodibogijnjlaaa", sum := "7c605e62fb1e04f41426860256456199da9bcea3c06c2c62ec3561d43bc393d7", func := "loop.example/poolfiles/laws.FnExactFlatSame", spec := "fnExactFlatSame", apart := false, narrowed := true }
def FnExactFlatSameUptoSaid : Prop := fnExactFlatSameUptoRow.holds Try.pinned (OpenSpec.upto fnExactFlatSameSpec)

/-- 'laws.FnExactMetaSame', WHERE WHAT IT READS IS OF BULK AT MOST 1048576: true; the input reads as it did. -/
def fnExactMetaSameUptoRow : OpenClaim := { program := "ytodibogijnjlaaa", sum := "7c605e62fb1e04f41426860256456199da9bcea3c06c2c62ec3561d43bc393d7", func := "loop.example/poolfiles/laws.FnExactMetaSame", spec := "fnExactMetaSame", unfollowed := true, recurses := true, apart := false, narrowed := true }
def FnExactMetaSameUptoSaid : Prop := fnExactMetaSameUptoRow.holds Try.pinned (OpenSpec.upto fnExactMetaSameSpec)

end Rows
end Go.Proofs.Ytodibogijnjlaaa

/-
  No cell of these rows narrows 'for every input' (looked for: loops, veiled, ifaces, maps, wideKeys, modest, calm, conditions, laid).
  DERIVED. THE GIVEN ROWS OF THIS SEAT. 12 by the template 'for every input the law returns true; each argument reads behind the call as it read before'; 0 by the template 'total and deterministic' (their statements: YtgipchipcoaajaaTotals.lean).
  GIVEN WITH THE SEED: the statements are not yours to turn. If you find one false, say at which input.
  Laid BY PROGRAM, IN A SANDBOX (cutbox-rows.mjs): the forced cells as the released guide's own fill.sh prints them over the translation b281725adb615a63… (all of the seat's roots in one cut). By AI agents, Wed Nov 11 2026. No macro, syntax, notation, axiom, sorry.
-/
import Derived.Test.YtgipchipcoaajaaChecked
import GoSem.Claim
import GoSem.ClaimJoined
import GoSem.ClaimMapViews
import Derived.JoinedTies
import Derived.KernelRfl
namespace Go.Proofs.Ytgipchipcoaajaa
/- THE CELL 'sum', in the pinned program and in every row, IS THE sha256 OF THE DUMP (.gsa) THAT YtgipchipcoaajaaProg.lean LOADS. Nothing in Lean hashes anything: it is a label: what it is worth is what the hold of that sum in a sandbox is worth. -/
noncomputable def Try.pinned : Pinned := { name := "ytgipchipcoaajaa", sum := "b281725adb615a635ddfb4795cf1091a498c3e27326b3f21d9cff83a5b0286ed", checked := Try.checked }
namespace Rows
def none {H : Type} : Left H := { results := [], args := [] }

/-- 'laws.FnDiskLose': WHATEVER THE INPUT: true; the input reads as it did. -/
def fnDiskLoseSpec : ChangeSpec := { name := "fnDiskLose", fn := fun _ => fun
  | [d] => { results := [.lit (.bool true)], args := [d] }
  | _ => none }
def fnDiskLoseRow : OpenClaim := { program := "ytgipchipcoaajaa", sum := "b281725adb615a635ddfb4795cf1091a498c3e27326b3f21d9cff83a5b0286ed", func := "loop.example/poolfiles/laws.FnDiskLose", spec := "fnDiskLose", unfollowed := true, recurses := true, apart := false }
def FnDiskLoseSaid : Prop := fnDiskLoseRow.holds Try.pinned (OpenSpec.ofChange fnDiskLoseSpec)

/-- ITS FALSE NEIGHBOUR: 'it returns false'. Refute it at one input. -/
def fnDiskLoseWrong : ChangeSpec := { name := "fnDiskLose", fn := fun _ => fun
  | [d] => { results := [.lit (.bool false)], args := [d] }
  | _ => none }
def FnDiskLoseWrongFalsely : Prop := fnDiskLoseRow.holds Try.pinned (OpenSpec.ofChange fnDiskLoseWrong)

/-- 'laws.FnDiskSpoil': WHATEVER THE INPUT: true; the input reads as it did. -/
def fnDiskSpoilSpec : ChangeSpec := { name := "fnDiskSpoil", fn := fun _ => fun
  | [d] => { results := [.lit (.bool true)], args := [d] }
  | _ => none }
def fnDiskSpoilRow : OpenClaim := { program := "ytgipchipcoaajaa", sum := "b281725adb615a635ddfb4795cf1091a498c3e27326b3f21d9cff83a5b0286ed", func := "loop.example/poolfiles/laws.FnDiskSpoil", spec := "fnDiskSpoil", unfollowed := true, recurses := true, apart := false }
def FnDiskSpoilSaid : Prop := fnDiskSpoilRow.holds Try.pinned (OpenSpec.ofChange fnDiskSpoilSpec)

/-- ITS FALSE NEIGHBOUR: 'it returns false'. Refute it at one input. -/
def fnDiskSpoilWrong : ChangeSpec := { name := "fnDiskSpoil", fn := fun _ => fun
  | [d] => { results := [.lit (.bool false)], args := [d] }
  | _ => none }
def FnDiskSpoilWrongFalsely : Prop := fnDiskSpoilRow.holds Try.pinned (OpenSpec.ofChange fnDiskSpoilWrong)

/-- 'laws.FnDiskWrite': WHATEVER THE INPUT: true; the input reads as it did. -/
def fnDiskWriteSpec : ChangeSpec := { name := "fnDiskWrite", fn := fun _ => fun
  | [d1, d2] => { results := [.lit (.bool true)], args := [d1, d2] }
  | _ => none }
def fnDiskWriteRow : OpenClaim := { program := "ytgipchipcoaajaa", sum := "b281725adb615a635ddfb4795cf1091a498c3e27326b3f21d9cff83a5b0286ed", func := "loop.example/poolfiles/laws.FnDiskWrite", spec := "fnDiskWrite", unfollowed := true, recurses := true, apart := false }
def FnDiskWriteSaid : Prop := fnDiskWriteRow.holds Try.pinned (OpenSpec.ofChange fnDiskWriteSpec)

/-- ITS FALSE NEIGHBOUR: 'it returns false'. Refute it at one input. -/
def fnDiskWriteWrong : ChangeSpec := { name := "fnDiskWrite", fn := fun _ => fun
  | [d1, d2] => { results := [.lit (.bool false)], args := [d1, d2] }
  | _ => none }
def FnDiskWriteWrongFalsely : Prop := fnDiskWriteRow.holds Try.pinned (OpenSpec.ofChange fnDiskWriteWrong)

/-- 'laws.FnDiskOrder': WHATEVER THE INPUT: true; the input reads as it did. -/
def fnDiskOrderSpec : ChangeSpec := { name := "fnDiskOrder", fn := fun _ => fun
  | [d1, d2] => { results := [.lit (.bool true)], args := [d1, d2] }
  | _ => none }
def fnDiskOrderRow : OpenClaim := { program := "ytgipchipcoaajaa", sum := "b281725adb615a635ddfb4795cf1091a498c3e27326b3f21d9cff83a5b0286ed", func := "loop.example/poolfiles/laws.FnDiskOrder", spec := "fnDiskOrder", unfollowed := true, recurses := true, apart := false }
def FnDiskOrderSaid : Prop := fnDiskOrderRow.holds Try.pinned (OpenSpec.ofChange fnDiskOrderSpec)

/-- ITS FALSE NEIGHBOUR: 'it returns false'. Refute it at one input. -/
def fnDiskOrderWrong : ChangeSpec := { name := "fnDiskOrder", fn := fun _ => fun
  | [d1, d2] => { results := [.lit (.bool false)], args := [d1, d2] }
  | _ => none }
def FnDiskOrderWrongFalsely : Prop := fnDiskOrderRow.holds Try.pinned (OpenSpec.ofChange fnDiskOrderWrong)

/-- 'laws.FnDiskTorn': WHATEVER THE INPUT: true; the input reads as it did. -/
def fnDiskTornSpec : ChangeSpec := { name := "fnDiskTorn", fn := fun _ => fun
  | [d] => { results := [.lit (.bool true)], args := [d] }
  | _ => none }
def fnDiskTornRow : OpenClaim := { program := "ytgipchipcoaajaa", sum := "b281725adb615a635ddfb4795cf1091a498c3e27326b3f21d9cff83a5b0286ed", func := "loop.example/poolfiles/laws.FnDiskTorn", spec := "fnDiskTorn", unfollowed := true, recurses := true, apart := false }
def FnDiskTornSaid : Prop := fnDiskTornRow.holds Try.pinned (OpenSpec.ofChange fnDiskTornSpec)

/-- ITS FALSE NEIGHBOUR: 'it returns false'. Refute it at one input. -/
def fnDiskTornWrong : ChangeSpec := { name := "fnDiskTorn", fn := fun _ => fun
  | [d] => { results := [.lit (.bool false)], args := [d] }
  | _ => none }
def FnDiskTornWrongFalsely : Prop := fnDiskTornRow.holds Try.pinned (OpenSpec.ofChange fnDiskTornWrong)

/-- 'laws.FnExactDiskSpoil': WHATEVER THE INPUT: true; the input reads as it did. -/
def fnExactDiskSpoilSpec : ChangeSpec := { name := "fnExactDiskSpoil", fn := fun _ => fun
  | [d1, d2, d3] => { results := [.lit (.bool true)], args := [d1, d2, d3] }
  | _ => none }
def fnExactDiskSpoilRow : OpenClaim := { program := "ytgipchipcoaajaa", sum := "b281725adb615a635ddfb4795cf1091a498c3e27326b3f21d9cff83a5b0286ed", func := "loop.example/poolfiles/laws.FnExactDiskSpoil", spec := "fnExactDiskSpoil", unfollowed := true, recurses := true, apart := false }
def FnExactDiskSpoilSaid : Prop := fnExactDiskSpoilRow.holds Try.pinned (OpenSpec.ofChange fnExactDiskSpoilSpec)

/-- ITS FALSE NEIGHBOUR: 'it returns false'. Refute it at one input. -/
def fnExactDiskSpoilWrong : ChangeSpec := { name := "fnExactDiskSpoil", fn := fun _ => fun
  | [d1, d2, d3] => { results := [.lit (.bool false)], args := [d1, d2, d3] }
  | _ => none }
def FnExactDiskSpoilWrongFalsely : Prop := fnExactDiskSpoilRow.holds Try.pinned (OpenSpec.ofChange fnExactDiskSpoilWrong)

/-- 'laws.FnDiskLast': WHATEVER THE INPUT: true; the input reads as it did. -/
def fnDiskLastSpec : ChangeSpec := { name := "fnDiskLast", fn := fun _ => fun
  | [d1, d2] => { results := [.lit (.bool true)], args := [d1, d2] }
  | _ => none }
def fnDiskLastRow : OpenClaim := { program := "ytgipchipcoaajaa", sum := "b281725adb615a635ddfb4795cf1091a498c3e27326b3f21d9cff83a5b0286ed", func := "loop.example/poolfiles/laws.FnDiskLast", spec := "fnDiskLast", unfollowed := true, recurses := true, apart := false }
def FnDiskLastSaid : Prop := fnDiskLastRow.holds Try.pinned (OpenSpec.ofChange fnDiskLastSpec)

/-- ITS FALSE NEIGHBOUR: 'it returns false'. Refute it at one input. -/
def fnDiskLastWrong : ChangeSpec := { name := "fnDiskLast", fn := fun _ => fun
  | [d1, d2] => { results := [.lit (.bool false)], args := [d1, d2] }
  | _ => none }
def FnDiskLastWrongFalsely : Prop := fnDiskLastRow.holds Try.pinned (OpenSpec.ofChange fnDiskLastWrong)

/-- 'laws.FnExactDiskWrite': WHATEVER THE INPUT: true; the input reads as it did. -/
def fnExactDiskWriteSpec : ChangeSpec := { name := "fnExactDiskWrite", fn := fun _ => fun
  | [d1, d2, d3] => { results := [.lit (.bool true)], args := [d1, d2, d3] }
  | _ => none }
def fnExactDiskWriteRow : OpenClaim := { program := "ytgipchipcoaajaa", sum := "b281725adb615a635ddfb4795cf1091a498c3e27326b3f21d9cff83a5b0286ed", func := "loop.example/poolfiles/laws.FnExactDiskWrite", spec := "fnExactDiskWrite", unfollowed := true, recurses := true, apart := false }
def FnExactDiskWriteSaid : Prop := fnExactDiskWriteRow.holds Try.pinned (OpenSpec.ofChange fnExactDiskWriteSpec)

/-- ITS FALSE NEIGHBOUR: 'it returns false'. Refute it at one input. -/
def fnExactDiskWriteWrong : ChangeSpec := { name := "fnExactDiskWrite", fn := fun _ => fun
  | [d1, d2, d3] => { results := [.lit (.bool false)], args := [d1, d2, d3] }
  | _ => none }
def FnExactDiskWriteWrongFalsely : Prop := fnExactDiskWriteRow.holds Try.pinned (OpenSpec.ofChange fnExactDiskWriteWrong)

/-- 'laws.FnStoreNew': WHATEVER THE INPUT: true; the input reads as it did. -/
def fnStoreNewSpec : ChangeSpec := { name := "fnStoreNew", fn := fun _ => fun
  | [d] => { results := [.lit (.bool true)], args := [d] }
  | _ => none }
def fnStoreNewRow : OpenClaim := { program := "ytgipchipcoaajaa", sum := "b281725adb615a635ddfb4795cf1091a498c3e27326b3f21d9cff83a5b0286ed", func := "loop.example/poolfiles/laws.FnStoreNew", spec := "fnStoreNew", unfollowed := true, recurses := true, apart := false }
def FnStoreNewSaid : Prop := fnStoreNewRow.holds Try.pinned (OpenSpec.ofChange fnStoreNewSpec)

/-- ITS FALSE NEIGHBOUR: 'it returns false'. Refute it at one input. -/
def fnStoreNewWrong : ChangeSpec := { name := "fnStoreNew", fn := fun _ => fun
  | [d] => { results := [.lit (.bool false)], args := [d] }
  | _ => none }
def FnStoreNewWrongFalsely : Prop := fnStoreNewRow.holds Try.pinned (OpenSpec.ofChange fnStoreNewWrong)

/-- 'laws.FnRaidLose': WHATEVER THE INPUT: true; the input reads as it did. -/
def fnRaidLoseSpec : ChangeSpec := { name := "fnRaidLose", fn := fun _ => fun
  | [d] => { results := [.lit (.bool true)], args := [d] }
  | _ => none }
def fnRaidLoseRow : OpenClaim := { program := "ytgipchipcoaajaa", sum := "b281725adb615a635ddfb4795cf1091a498c3e27326b3f21d9cff83a5b0286ed", func := "loop.example/poolfiles/laws.FnRaidLose", spec := "fnRaidLose", unfollowed := true, recurses := true, apart := false }
def FnRaidLoseSaid : Prop := fnRaidLoseRow.holds Try.pinned (OpenSpec.ofChange fnRaidLoseSpec)

/-- ITS FALSE NEIGHBOUR: 'it returns false'. Refute it at one input. -/
def fnRaidLoseWrong : ChangeSpec := { name := "fnRaidLose", fn := fun _ => fun
  | [d] => { results := [.lit (.bool false)], args := [d] }
  | _ => none }
def FnRaidLoseWrongFalsely : Prop := fnRaidLoseRow.holds Try.pinned (OpenSpec.ofChange fnRaidLoseWrong)

/-- 'laws.FnExactRaidLose': WHATEVER THE INPUT: true; the input reads as it did. -/
def fnExactRaidLoseSpec : ChangeSpec := { name := "fnExactRaidLose", fn := fun _ => fun
  | [d1, d2] => { results := [.lit (.bool true)], args := [d1, d2] }
  | _ => none }
def fnExactRaidLoseRow : OpenClaim := { program := "ytgipchipcoaajaa", sum := "b281725adb615a635ddfb4795cf1091a498c3e27326b3f21d9cff83a5b0286ed", func := "loop.example/poolfiles/laws.FnExactRaidLose", spec := "fnExactRaidLose", unfollowed := true, recurses := true, apart := false }
def FnExactRaidLoseSaid : Prop := fnExactRaidLoseRow.holds Try.pinned (OpenSpec.ofChange fnExactRaidLoseSpec)

/-- ITS FALSE NEIGHBOUR: 'it returns false'. Refute it at one input. -/
def fnExactRaidLoseWrong : ChangeSpec := { name := "fnExactRaidLose", fn := fun _ => fun
  | [d1, d2] => { results := [.lit (.bool false)], args := [d1, d2] }
  | _ => none }
def FnExactRaidLoseWrongFalsely : Prop := fnExactRaidLoseRow.holds Try.pinned (OpenSpec.ofChange fnExactRaidLoseWrong)

/-- 'laws.FnExactRaidWrite': WHATEVER THE INPUT: true; the input reads as it did. -/
def fnExactRaidWriteSpec : ChangeSpec := { name := "fnExactRaidWrite", fn := fun _ => fun
  | [d1, d2, d3] => { results := [.lit (.bool true)], args := [d1, d2, d3] }
  | _ => none }
def fnExactRaidWriteRow : OpenClaim := { program := "ytgipchipcoaajaa", sum := "b281725adb615a635ddfb4795cf1091a498c3e27326b3f21d9cff83a5b0286ed", func := "loop.example/poolfiles/laws.FnExactRaidWrite", spec := "fnExactRaidWrite", unfollowed := true, recurses := true, apart := false }
def FnExactRaidWriteSaid : Prop := fnExactRaidWriteRow.holds Try.pinned (OpenSpec.ofChange fnExactRaidWriteSpec)

/-- ITS FALSE NEIGHBOUR: 'it returns false'. Refute it at one input. -/
def fnExactRaidWriteWrong : ChangeSpec := { name := "fnExactRaidWrite", fn := fun _ => fun
  | [d1, d2, d3] => { results := [.lit (.bool false)], args := [d1, d2, d3] }
  | _ => none }
def FnExactRaidWriteWrongFalsely : Prop := fnExactRaidWriteRow.holds Try.pinned (OpenSpec.ofChange fnExactRaidWriteWrong)

/- THE SECOND FORM. 'bulk': how many values and letters a reading holds, each counted each time it is reached (what is shared counts as often as it is met; a slice's spare places count too). A statement '..UptoSaid' is the law's where the arguments, and the package variables that the reading takes, are together of bulk at most 1048576: NARROWER than '..Said'. Prove '..Said' where nothing that the law and all that it calls make is longer than what came in: it says more and counts as full. Else prove '..UptoSaid'. A law counts once. -/
mutual
def uptoBulk {H : Type} : DataW H → Nat
  | .lit (.string bytes) => bytes.length + 1
  | .lit _ => 1
  | .nil => 1
  | .ptr d => uptoBulk d + 1
  | .slice elems spare => uptoBulkAll elems + uptoBulkAll spare + 1
  | .agg parts => uptoBulkAll parts + 1
  | .iface _ d => uptoBulk d + 1
  | .map entries => uptoBulkEntries entries + 1
  | .held _ => 1
def uptoBulkAll {H : Type} : List (DataW H) → Nat
  | [] => 0
  | d :: r => uptoBulk d + uptoBulkAll r
def uptoBulkEntries {H : Type} : List (Lit × DataW H) → Nat
  | [] => 0
  | x :: r => uptoBulkEntry x + uptoBulkEntries r
def uptoBulkEntry {H : Type} : Lit × DataW H → Nat
  | (.string bytes, d) => bytes.length + uptoBulk d + 1
  | (_, d) => uptoBulk d + 1
 end
def uptoSmall : (H : Type) → List (DataW H) → Bool := fun _ ds => decide (uptoBulkAll ds ≤ 1048576)
def OpenSpec.upto (s : _root_.Go.ChangeSpec) : _root_.Go.OpenSpec := { _root_.Go.OpenSpec.ofChange s with cond := some uptoSmall }

/-- 'laws.FnDiskLose', WHERE WHAT IT READS IS OF BULK AT MOST 1048576: true; the input reads as it did. -/
def fnDiskLoseUptoRow : OpenClaim := { program := "ytgipchipcoaajaa", sum := "b281725adb615a635ddfb4795cf1091a498c3e27326b3f21d9cff83a5b0286ed", func := "loop.example/poolfiles/laws.FnDiskLose", spec := "fnDiskLose", unfollowed := true, recurses := true, apart := false, narrowed := true }
def FnDiskLoseUptoSaid : Prop := fnDiskLoseUptoRow.holds Try.pinned (OpenSpec.upto fnDiskLoseSpec)

/-- 'laws.FnDiskSpoil', WHERE WHAT IT READS IS OF BULK AT MOST 1048576: true; the input reads as it did. -/
def fnDiskSpoilUptoRow : OpenClaim := { program := "ytgipchipcoaajaa", sum := "b281725adb615a635ddfb4795cf1091a498c3e27326b3f21d9cff83a5b0286ed", func := "loop.example/poolfiles/laws.FnDiskSpoil", spec := "fnDiskSpoil", unfollowed := true, recurses := true, apart := false, narrowed := true }
def FnDiskSpoilUptoSaid : Prop := fnDiskSpoilUptoRow.holds Try.pinned (OpenSpec.upto fnDiskSpoilSpec)

/-- 'laws.FnDiskWrite', WHERE WHAT IT READS IS OF BULK AT MOST 1048576: true; the input reads as it did. -/
def fnDiskWriteUptoRow : OpenClaim := { program := "ytgipchipcoaajaa", sum := "b281725adb615a635ddfb4795cf1091a498c3e27326b3f21d9cff83a5b0286ed", func := "loop.example/poolfiles/laws.FnDiskWrite", spec := "fnDiskWrite", unfollowed := true, recurses := true, apart := false, narrowed := true }
def FnDiskWriteUptoSaid : Prop := fnDiskWriteUptoRow.holds Try.pinned (OpenSpec.upto fnDiskWriteSpec)

/-- 'laws.FnDiskOrder', WHERE WHAT IT READS IS OF BULK AT MOST 1048576: true; the input reads as it did. -/
def fnDiskOrderUptoRow : OpenClaim := { program := "ytgipchipcoaajaa", sum := "b281725adb615a635ddfb4795cf1091a498c3e27326b3f21d9cff83a5b0286ed", func := "loop.example/poolfiles/laws.FnDiskOrder", spec := "fnDiskOrder", unfollowed := true, recurses := true, apart := false, narrowed := true }
def FnDiskOrderUptoSaid : Prop := fnDiskOrderUptoRow.holds Try.pinned (OpenSpec.upto fnDiskOrderSpec)

/-- 'laws.FnDiskTorn', WHERE WHAT IT READS IS OF BULK AT MOST 1048576: true; the input reads as it did. -/
def fnDiskTornUptoRow : OpenClaim := { program := "ytgipchipcoaajaa", sum := "b281725adb615a635ddfb4795cf1091a498c3e27326b3f21d9cff83a5b0286ed", func := "loop.example/poolfiles/laws.FnDiskTorn", spec := "fnDiskTorn", unfollowed := true, recurses := true, apart := false, narrowed := true }
def FnDiskTornUptoSaid : Prop := fnDiskTornUptoRow.holds Try.pinned (OpenSpec.upto fnDiskTornSpec)

/-- 'laws.FnExactDiskSpoil', WHERE WHAT IT READS IS OF BULK AT MOST 1048576: true; the input reads as it did. -/
def fnExactDiskSpoilUptoRow : OpenClaim := { program := "ytgipchipcoaajaa", sum := "b281725adb615a635ddfb4795cf1091a498c3e27326b3f21d9cff83a5b0286ed", func := "loop.example/poolfiles/laws.FnExactDiskSpoil", spec := "fnExactDiskSpoil", unfollowed := true, recurses := true, apart := false, narrowed := true }
def FnExactDiskSpoilUptoSaid : Prop := fnExactDiskSpoilUptoRow.holds Try.pinned (OpenSpec.upto fnExactDiskSpoilSpec)

/-- 'laws.FnDiskLast', WHERE WHAT IT READS IS OF BULK AT MOST 1048576: true; the input reads as it did. -/
def fnDiskLastUptoRow : OpenClaim := { program := "ytgipchipcoaajaa", sum := "b281725adb615a635ddfb4795cf1091a498c3e27326b3f21d9cff83a5b0286ed", func := "loop.example/poolfiles/laws.FnDiskLast", spec := "fnDiskLast", unfollowed := true, recurses := true, apart := false, narrowed := true }
def FnDiskLastUptoSaid : Prop := fnDiskLastUptoRow.holds Try.pinned (OpenSpec.upto fnDiskLastSpec)

/-- 'laws.FnExactDiskWrite', WHERE WHAT IT READS IS OF BULK AT MOST 1048576: true; the input reads as it did. -/
def fnExactDiskWriteUptoRow : OpenClaim := { program := "ytgipchipcoaajaa", sum := "b281725adb615a635ddfb4795cf1091a498c3e27326b3f21d9cff83a5b0286ed", func := "loop.example/poolfiles/laws.FnExactDiskWrite", spec := "fnExactDiskWrite", unfollowed := true, recurses := true, apart := false, narrowed := true }
def FnExactDiskWriteUptoSaid : Prop := fnExactDiskWriteUptoRow.holds Try.pinned (OpenSpec.upto fnExactDiskWriteSpec)

/-- 'laws.FnStoreNew', WHERE WHAT IT READS IS OF BULK AT MOST 1048576: true; the input reads as it did. -/
def fnStoreNewUptoRow : OpenClaim := { program := "ytgipchipcoaajaa", sum := "b281725adb615a635ddfb4795cf1091a498c3e27326b3f21d9cff83a5b0286ed", func := "loop.example/poolfiles/laws.FnStoreNew", spec := "fnStoreNew", unfollowed := true, recurses := true, apart := false, narrowed := true }
def FnStoreNewUptoSaid : Prop := fnStoreNewUptoRow.holds Try.pinned (OpenSpec.upto fnStoreNewSpec)

/-- 'laws.FnRaidLose', WHERE WHAT IT READS IS OF BULK AT MOST 1048576: true; the input reads as it did. -/
def fnRaidLoseUptoRow : OpenClaim := { program := "ytgipchipcoaajaa", sum := "b281725adb615a635ddfb4795cf1091a498c3e27326b3f21d9cff83a5b0286ed", func := "loop.example/poolfiles/laws.FnRaidLose", spec := "fnRaidLose", unfollowed := true, recurses := true, apart := false, narrowed := true }
def FnRaidLoseUptoSaid : Prop := fnRaidLoseUptoRow.holds Try.pinned (OpenSpec.upto fnRaidLoseSpec)

/-- 'laws.FnExactRaidLose', WHERE WHAT IT READS IS OF BULK AT MOST 1048576: true; the input reads as it did. -/
def fnExactRaidLoseUptoRow : OpenClaim := { program := "ytgipchipcoaajaa", sum := "b281725adb615a635ddfb4795cf1091a498c3e27326b3f21d9cff83a5b0286ed", func := "loop.example/poolfiles/laws.FnExactRaidLose", spec := "fnExactRaidLose", unfollowed := true, recurses := true, apart := false, narrowed := true }
def FnExactRaidLoseUptoSaid : Prop := fnExactRaidLoseUptoRow.holds Try.pinned (OpenSpec.upto fnExactRaidLoseSpec)

/-- 'laws.FnExactRaidWrite', WHERE WHAT IT READS IS OF BULK AT MOST 1048576: true; the input reads as it did. -/
def fnExactRaidWriteUptoRow : OpenClaim := { program := "ytgipchipcoaajaa", sum := "b281725adb615a635ddfb4795cf1091a498c3e27326b3f21d9cff83a5b0286ed", func := "loop.example/poolfiles/laws.FnExactRaidWrite", spec := "fnExactRaidWrite", unfollowed := true, recurses := true, apart := false, narrowed := true }
def FnExactRaidWriteUptoSaid : Prop := fnExactRaidWriteUptoRow.holds Try.pinned (OpenSpec.upto fnExactRaidWriteSpec)

end Rows
end Go.Proofs.Ytgipchipcoaajaa

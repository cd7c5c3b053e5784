/- PtrPut both: the text of a pointer. Condition: the table of powers of ten lies as its initialiser lays it. -/
import Derived.Test.YtggdjiklgakfnaaGreatDoorNum
namespace Go.Proofs.YtggdjiklgakfnaaGreatDoor
set_option linter.unusedVariables false
set_option linter.unusedSimpArgs false
set_option linter.unnecessarySimpa false
open Go Go.Lib Go.RowKit

/-- In a region: a new literal block. -/
def newLit (B : Nat) (T : TypeId) (cur : Array Value) (n : Nat) : StP := ⟨fun v w => ∃ g : Nat, v = .slice (some ⟨g, 0, none⟩) n n ∧ w.heap[g]? = some (.cells cur T (0, 0)) ∧ B ≤ g, fun _ _ _ he ⟨g, e, hg, hB⟩ => ⟨g, e, (Below.block he g (Array.getElem?_eq_some_iff.1 hg).1).trans hg, hB⟩⟩
def ptrL (a b s m l : Int) : List Int := [a, b, s, m, l]
def TextR (t : Str) (w : World) (e : Ending) (w' : World) : Prop := e = .returned (.string (strB t)) ∧ Below w.heap.size w w'
end Go.Proofs.YtggdjiklgakfnaaGreatDoor

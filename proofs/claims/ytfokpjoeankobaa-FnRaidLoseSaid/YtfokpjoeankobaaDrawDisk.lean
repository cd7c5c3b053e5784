/- Drawn cells of a disk. No condition. -/
import Derived.Test.YtfokpjoeankobaaRd
import Derived.Test.YtfokpjoeankobaaTypes
namespace Go.Proofs.Ytfokpjoeankobaa
set_option linter.unusedVariables false
set_option linter.unusedSimpArgs false
set_option linter.unnecessarySimpa false
open Go.RowKit

/-- A number drawn by a reader. -/
def PickedIn (lo hi : Int) (d : Nat) (w : World) (p : Nat) (A : Option Addr) (n c : Nat) (zs : List Int) (k : Nat) (e : Ending) (w' : World) : Prop :=
  ∃ (x : Int) (k' : Nat), e = .returned (.int .i64 x) ∧ lo ≤ x ∧ x ≤ hi ∧ k' ≤ k + d ∧ Rd w' p A n c zs k' ∧ Chg (· ∈ [p]) w w'
end Go.Proofs.Ytfokpjoeankobaa

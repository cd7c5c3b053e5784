/- SpaceTake, of the program and of the reference. No condition. -/
import Derived.Test.YtffieobjcipeoaaCopy
import Derived.Test.YtffieobjcipeoaaSpaceRoom
namespace Go.Proofs.Ytffieobjcipeoaa
set_option linter.unusedVariables false
set_option linter.unusedSimpArgs false
set_option linter.unnecessarySimpa false
open Go.RowKit

/-- A call that returns a space of its own and a bool. -/
def SpRes (w : World) (xs ys : List Int) (b : Bool) (e : Ending) (w' : World) : Prop :=
  ∃ A n c B m d S, e = .returned (.tuple #[.agg #[.slice A n c, .slice B m d], .bool b]) ∧ SpOwn w' S A n c B m d xs ys ∧ (∀ k ∈ S, w.heap.size ≤ k) ∧ Below w.heap.size w w'

def takeOk (xs ys : List Int) (at_ txg : Int) : Bool := spOk xs ys && inB at_ 8 63 && inB txg 1 900 && decide (ys.getD at_.toNat 0 < txg)
def takeX (xs ys : List Int) (at_ txg : Int) : List Int := if takeOk xs ys at_ txg then xs.set at_.toNat (xs.getD at_.toNat 0 + 1) else []
def takeY (xs ys : List Int) (at_ txg : Int) : List Int := if takeOk xs ys at_ txg then ys.set at_.toNat txg else []
theorem inB_at {at_ : Int} (h : inB at_ 8 63 = true) : ∃ a : Nat, at_ = (a : Int) ∧ 8 ≤ a ∧ a ≤ 63 := by
  unfold inB at h
  have h := of_decide_eq_true h
  exact ⟨at_.toNat, by omega, by omega, by omega⟩


end Go.Proofs.Ytffieobjcipeoaa

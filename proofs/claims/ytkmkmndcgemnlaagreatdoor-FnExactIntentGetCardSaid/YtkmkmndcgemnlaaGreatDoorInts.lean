/- The laws' helpers on lists of ints: what they return. No condition. -/
import Derived.Test.YtkmkmndcgemnlaaGreatDoorLib
import Derived.Test.YtkmkmndcgemnlaaGreatDoorChecked
namespace Go.Proofs.YtkmkmndcgemnlaaGreatDoor
set_option linter.unusedVariables false
set_option linter.unusedSimpArgs false
set_option linter.unnecessarySimpa false
open Go.RowKit

theorem eqInts_of_getD {n : Nat} {xs ys : List Int} (hx : xs.length = n) (hy : ys.length = n) (h : ∀ j, j < n → xs.getD j 0 = ys.getD j 0) : eqInts xs ys = true := by
  rw [eqInts_iff]
  apply List.ext_getElem (by omega)
  intro j h1 h2
  have := h j (by omega)
  simpa [List.getD, h1, h2] using this
theorem eqInts_ne {k : Nat} {xs ys : List Int} (h : xs.getD k 0 ≠ ys.getD k 0) : eqInts xs ys = false := by
  cases he : eqInts xs ys with
  | false => rfl
  | true => rw [eqInts_iff] at he; subst he; exact absurd rfl h
theorem eqInts_len {xs ys : List Int} (h : xs.length ≠ ys.length) : eqInts xs ys = false := by
  cases he : eqInts xs ys with
  | false => rfl
  | true => rw [eqInts_iff] at he; subst he; exact absurd rfl h


end Go.Proofs.YtkmkmndcgemnlaaGreatDoor

/- markText: a mark's text. Condition: the number is below 2^40. -/
import Derived.Test.YtfokpjoeankobaaTypes
import Derived.Test.YtfokpjoeankobaaChecked
import Derived.Laws.BytesArg
namespace Go.Proofs.Ytfokpjoeankobaa
set_option linter.unusedVariables false
set_option linter.unusedSimpArgs false
set_option linter.unnecessarySimpa false
open Go.RowKit

theorem str_cons (v : Int) (o : List UInt8) : strOfNums [v] ++ ⟨o.toArray⟩ = ⟨(UInt8.ofNat v.toNat :: o).toArray⟩ := by
  apply ByteArray.ext
  simp [strOfNums]
theorem str_cons_m (o : List UInt8) : (⟨#[109]⟩ : ByteArray) ++ ⟨o.toArray⟩ = ⟨(109 :: o).toArray⟩ := by
  apply ByteArray.ext
  simp
theorem mdig_succ (f k : Nat) (out : List UInt8) : mdig (f + 1) k out = if k = 0 then out else mdig f (k / 10) (UInt8.ofNat (48 + k % 10) :: out) := rfl
theorem mdig_zero (f : Nat) (out : List UInt8) : mdig f 0 out = out := by cases f <;> simp [mdig]
end Go.Proofs.Ytfokpjoeankobaa

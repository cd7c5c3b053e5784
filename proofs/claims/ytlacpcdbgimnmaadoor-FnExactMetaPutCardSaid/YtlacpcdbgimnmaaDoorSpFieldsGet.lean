/- FieldsGet of the reference. Condition: the text is at most 2^40 bytes. -/
import Derived.Test.YtlacpcdbgimnmaaDoorFieldsGet
namespace Go.Proofs.YtlacpcdbgimnmaaDoor
set_option linter.unusedVariables false
set_option linter.unusedSimpArgs false
set_option linter.unnecessarySimpa false
open Go Go.Lib Go.RowKit

theorem drop_ne {s : Str} {j : Nat} (h : j < s.length) : s.drop j ≠ [] := by
  intro e
  have := congrArg List.length e
  rw [List.length_drop, List.length_nil] at this
  omega
theorem ext_mid (b : Str) (i j : Nat) : (strB b).extract i (i + j) = strB ((b.drop i).take j) := by
  rw [ext_strB, List.drop_take, Nat.add_sub_cancel_left]
theorem encs_len_le : ∀ (l : List Str), l.length ≤ (encs l).length
  | [] => by simp
  | a :: l => by
    rw [encs_cons, List.length_append, List.length_cons]
    have := encs_len_le l
    have := enc1_len a
    omega
end Go.Proofs.YtlacpcdbgimnmaaDoor

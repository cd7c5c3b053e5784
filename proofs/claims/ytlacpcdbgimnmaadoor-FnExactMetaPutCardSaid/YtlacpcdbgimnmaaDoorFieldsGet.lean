/- FieldsGet both: the record that a text is the text of. Condition: the variables that the library reads lie as the row says; the text is at most 2^40 bytes. -/
import Derived.Test.YtlacpcdbgimnmaaDoorNumGet
import Derived.Test.YtlacpcdbgimnmaaDoorNum
namespace Go.Proofs.YtlacpcdbgimnmaaDoor
set_option linter.unusedVariables false
set_option linter.unusedSimpArgs false
set_option linter.unnecessarySimpa false
open Go Go.Lib Go.RowKit

theorem ext_strB (b : Str) (i j : Nat) : (strB b).extract i j = strB ((b.take j).drop i) := by
  apply ByteArray.ext
  rw [ByteArray.data_extract]
  apply Array.ext'
  simp [strB, List.drop_take]
theorem ext_head (b : Str) (n : Nat) : (strB b).extract 0 n = strB (b.take n) := by rw [ext_strB]; rfl
theorem ext_tail (b : Str) (n : Nat) : (strB b).extract n (strB b).size = strB (b.drop n) := by
  rw [ext_strB, strB_size, List.take_of_length_le (Nat.le_refl _)]
def GotRec (s : Str) (w : World) (e : Ending) (w' : World) : Prop :=
  (∃ (l : List Str) (A : Option Addr) (c : Nat), IsRec s l ∧ e = .returned (.tuple #[.slice A l.length c, .bool true]) ∧ StrsIn w.heap.size w' A c l ∧ Below w.heap.size w w') ∨
  ((∀ l, ¬ IsRec s l) ∧ (∃ (A : Option Addr) (c : Nat), e = .returned (.tuple #[.slice A 0 c, .bool false])) ∧ Below w.heap.size w w')
theorem GotRec.no {s : Str} {A : Option Addr} {c : Nat} {w w' : World} (h : ∀ l, ¬ IsRec s l) (hb : Below w.heap.size w w') : GotRec s w (.returned (.tuple #[.slice A 0 c, .bool false])) w' := .inr ⟨h, ⟨A, c, rfl⟩, hb⟩
theorem GotRec.yes {s : Str} {l : List Str} {A : Option Addr} {c n : Nat} {w w' : World} (h : IsRec s l) (hn : n = l.length) (hI : StrsIn w.heap.size w' A c l) (hb : Below w.heap.size w w') : GotRec s w (.returned (.tuple #[.slice A n c, .bool true])) w' := by
  subst hn
  exact .inl ⟨l, A, c, h, rfl, hI, hb⟩
theorem StrsIn.nil' {B : Nat} {w : World} (A : Option Addr) : StrsIn B w A 0 [] := ⟨[], OwnA.nil A, by simp⟩
def strLen (v : Value) : Nat := match v with | .string s => s.size | _ => 0
theorem empty_yes : ((strB []).toList == []) = true := by rw [strB_list]; rfl
theorem empty_no {x : Str} (h : x ≠ []) : ((strB x).toList == []) = false := by rw [strB_list]; cases x with
  | nil => exact absurd rfl h
  | cons a x => rfl
end Go.Proofs.YtlacpcdbgimnmaaDoor

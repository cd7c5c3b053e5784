/- The fields of a tree. Condition: the table of powers of ten lies as its initialiser lays it. -/
import Derived.Test.YtggdjiklgakfnaaGreatDoorPtrPut
namespace Go.Proofs.YtggdjiklgakfnaaGreatDoor
set_option linter.unusedVariables false
set_option linter.unusedSimpArgs false
set_option linter.unnecessarySimpa false
open Go Go.Lib Go.RowKit

/-- The table reads so, whatever is done from block B on. -/
def TabB (B : Nat) (w : World) : Prop := ∀ w', Below B w w' → Tab w'
theorem Tab.toB {w : World} (h : Tab w) : TabB w.heap.size w := fun _ hb => h.below hb
theorem TabB.here {B : Nat} {w : World} (h : TabB B w) : Tab w := h w (Below.refl _ _)
theorem TabB.on {B : Nat} {w w1 : World} (h : TabB B w) (hb : Below B w w1) : TabB B w1 := fun w' h' => h w' (hb.trans h')
theorem TabB.up {B B' : Nat} {w : World} (h : TabB B w) (hB : B ≤ B') : TabB B' w := fun w' h' => h w' (h'.mono hB)
theorem intsAt2 {w : World} {g T : Nat} {d n : Int} (hg : w.heap[g]? = some (.cells #[.int .i64 d, .int .i64 n] T (0, 0))) : IntsAt w (some ⟨g, 0, none⟩) 2 [d, n] := by
  refine ⟨rfl, by unfold maxLen; omega, fun _ => ⟨g, 0, rfl, fun j hj => ?_⟩⟩
  rw [Nat.zero_add, cell_of_row _ _ j _ _ (0, 0) hg]
  have hx : j = 0 ∨ j = 1 := by omega
  rcases hx with rfl | rfl <;> rfl
/-- In a region: a list of texts. -/
def strsP (B : Nat) (fs : List Str) : StP := ⟨fun v w => ∃ A c n, v = .slice A n c ∧ n = fs.length ∧ StrsIn B w A c fs, fun _ _ _ he ⟨A, c, n, e, hn, h⟩ => ⟨A, c, n, e, hn, h.below he⟩⟩
theorem treeS_len (a b s m l d n : Int) : (treeS a b s m l d n).length = 3 := rfl
theorem treeS_le (a b s m l d n : Int) : ∀ f ∈ treeS a b s m l d n, f.length ≤ 60 := by
  intro f hf
  unfold treeS at hf
  simp only [List.mem_cons, List.not_mem_nil, or_false] at hf
  rcases hf with rfl | rfl | rfl
  · exact ptrS_len _ _ _ _ _
  · have := numS_len d; omega
  · have := numS_len n; omega
end Go.Proofs.YtggdjiklgakfnaaGreatDoor

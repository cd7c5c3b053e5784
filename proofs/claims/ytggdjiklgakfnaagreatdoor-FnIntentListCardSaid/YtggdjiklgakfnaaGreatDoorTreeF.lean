/- The fields of a tree. Condition: the table of powers of ten lies as its initialiser lays it. -/
import Derived.Test.YtggdjiklgakfnaaGreatDoorPtrPut
namespace Go.Proofs.YtggdjiklgakfnaaGreatDoor
set_option linter.unusedVariables false
set_option linter.unusedSimpArgs false
set_option linter.unnecessarySimpa false
open Go Go.Lib Go.RowKit

/-- The table reads so, whatever is done from block B on. -/
def TabB (B : Nat) (w : World) : Prop := ∀ w', Below B w w' → Tab w'
theorem Tab.toB {w : World} (h : Tab w) : TabB w.heap.size w := fun _ hb => h.below hb
theorem TabB.here {B : Nat} {w : World} (h : TabB B w) : Tab w := h w (Below.refl _ _)
theorem TabB.on {B : Nat} {w w1 : World} (h : TabB B w) (hb : Below B w w1) : TabB B w1 := fun w' h' => h w' (hb.trans h')
/-- In a region: a list of texts. -/
def strsP (B : Nat) (fs : List Str) : StP := ⟨fun v w => ∃ A c n, v = .slice A n c ∧ n = fs.length ∧ StrsIn B w A c fs, fun _ _ _ he ⟨A, c, n, e, hn, h⟩ => ⟨A, c, n, e, hn, h.below he⟩⟩
end Go.Proofs.YtggdjiklgakfnaaGreatDoor

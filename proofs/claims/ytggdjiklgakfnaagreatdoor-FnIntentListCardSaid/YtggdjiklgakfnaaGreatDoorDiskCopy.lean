/- Copies of disks: new memory, arrays whole. Condition: fewer than 2^40 members a slice. -/
import Derived.Test.YtggdjiklgakfnaaGreatDoorTypes
import Derived.Test.YtggdjiklgakfnaaGreatDoorChecked
namespace Go.Proofs.YtggdjiklgakfnaaGreatDoor
set_option linter.unusedVariables false
set_option linter.unusedSimpArgs false
set_option linter.unnecessarySimpa false
section
open Go.RowKit

def DiskN : Reads DiskD := fun w lo hi cs x => ∃ (A0 : Option Addr) (n0 c0 : Nat) (A1 : Option Addr) (n1 c1 : Nat), cs = [.slice A0 n0 c0, .slice A1 n1 c1, .bool x.2.2] ∧ SliceR StrR 1 w lo hi A0 n0 c0 x.1 ∧ Whole w 9 1 lo hi A0 n0 c0 ∧ SliceR WaitR 2 w lo hi A1 n1 c1 x.2.1 ∧ Whole w 99 2 lo hi A1 n1 c1
theorem DiskN.r {w : World} {lo hi : Nat} {cs : List Value} {x : DiskD} (h : DiskN w lo hi cs x) : DiskR w lo hi cs x := by
  obtain ⟨A0, n0, c0, A1, n1, c1, rfl, h0, h1, h2, h3⟩ := h
  exact ⟨A0, n0, c0, A1, n1, c1, rfl, h0, h2⟩
theorem DiskN.keep {w w' : World} {lo hi : Nat} (hs : Same lo hi w w') (hz : w.heap.size ≤ w'.heap.size) (cs : List Value) (x : DiskD) (h : DiskN w lo hi cs x) : DiskN w' lo hi cs x := by
  obtain ⟨A0, n0, c0, A1, n1, c1, rfl, h0, h1, h2, h3⟩ := h
  exact ⟨A0, n0, c0, A1, n1, c1, rfl, h0.keep hs hz (StrR.keep hs hz), h1.keep hs, h2.keep hs hz (WaitR.keep hs hz), h3.keep hs⟩
theorem DiskN.wide {w : World} {lo hi lo' hi' : Nat} (b1 : lo' ≤ lo) (b2 : hi ≤ hi') (b3 : hi' ≤ w.heap.size) (cs : List Value) (x : DiskD) (h : DiskN w lo hi cs x) : DiskN w lo' hi' cs x := by
  obtain ⟨A0, n0, c0, A1, n1, c1, rfl, h0, h1, h2, h3⟩ := h
  exact ⟨A0, n0, c0, A1, n1, c1, rfl, h0.wide b1 b2 b3 (StrR.wide b1 b2 b3), h1.wide b1 b2, h2.wide b1 b2 b3 (WaitR.wide b1 b2 b3), h3.wide b1 b2⟩
theorem DiskN.below {w w' : World} {lo hi : Nat} (hb : Below w.heap.size w w') (hhi : hi ≤ w.heap.size) (cs : List Value) (x : DiskD) (h : DiskN w lo hi cs x) : DiskN w' lo hi cs x := DiskN.keep (Same.of_below hb hhi) hb.size cs x h



end
section
open Go.RowKit


end
end Go.Proofs.YtggdjiklgakfnaaGreatDoor

/- DiskWrite, the program's and the reference's. Condition: fewer than 2^40 members a slice. -/
import Derived.Test.YtggdjiklgakfnaaGreatDoorDiskOk
import Derived.Test.YtggdjiklgakfnaaGreatDoorDiskCopy
namespace Go.Proofs.YtggdjiklgakfnaaGreatDoor
set_option linter.unusedVariables false
set_option linter.unusedSimpArgs false
set_option linter.unnecessarySimpa false
section
open Go.RowKit

def spoilOk (d : DiskD) (at_ : Int) (s : ByteArray) : Bool := diskOk d && !d.2.2 && inB at_ 0 63 && decide (s.size ≤ 200)
def spoilD (d : DiskD) (at_ : Int) (s : ByteArray) : DiskD := if spoilOk d at_ s = true then (d.1.set at_.toNat s, d.2.1, d.2.2) else ([], [], false)
/-- A new struct and a truth. -/
def NewR2 {α : Type} (R : Reads α) (w : World) (x : α) (b : Bool) (e : Ending) (w' : World) : Prop :=
  ∃ cs, e = .returned (.tuple #[.agg (List.toArray cs), .bool b]) ∧ R w' w.heap.size w'.heap.size cs x ∧ Below w.heap.size w w'
end
section
open Go.RowKit

def writeGo (d : DiskD) (at_ : Int) (s : ByteArray) : Bool := !d.2.2 && inB at_ 0 63 && decide (s.size ≤ 200) && decide (d.2.1.length < 120)
def writeOk (d : DiskD) (at_ : Int) (s : ByteArray) : Bool := diskOk d && writeGo d at_ s
def writeD (d : DiskD) (at_ : Int) (s : ByteArray) : DiskD := if diskOk d = true then (if writeGo d at_ s = true then (d.1, d.2.1 ++ [(at_, s)], d.2.2) else d) else ([], [], false)
end
end Go.Proofs.YtggdjiklgakfnaaGreatDoor

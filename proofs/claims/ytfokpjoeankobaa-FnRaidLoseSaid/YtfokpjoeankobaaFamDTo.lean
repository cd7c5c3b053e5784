/- to at the disks' types: a copy in new memory, arrays whole. No condition. -/
import Derived.Test.YtfokpjoeankobaaTypes
import Derived.Test.YtfokpjoeankobaaDiskCopy
import Derived.Test.YtfokpjoeankobaaChecked
namespace Go.Proofs.Ytfokpjoeankobaa
set_option linter.unusedVariables false
set_option linter.unusedSimpArgs false
set_option linter.unnecessarySimpa false
open Go.RowKit

def sizeWait (x : WaitD) : Nat := x.2.size
def sizeDisk (x : DiskD) : Nat := x.1.length + (x.1.map ByteArray.size).sum + x.2.1.length + (x.2.1.map sizeWait).sum
theorem info_StringS : (Try.prog.info? 9).map (fun i => (i.zero, i.size, i.bytes)) = some (some (.string ByteArray.empty), 1, 16) := by kernel_rfl
theorem make_StringS (n : Nat) (hn : n ≤ 1048576) (w : World) :
    (Instr.makeSlice 42 (.int .i64 (n : Int)) (.int .i64 (n : Int))).run Try.prog w = .ok (.slice (some ⟨w.heap.size, 0, none⟩) n n) (w.alloc (.cells (madeCells #[.string ByteArray.empty] (n)) 9)) := by
  obtain ⟨i, hi, hz, hs, hb⟩ := info_parts info_StringS
  have hr := run_make (P := Try.prog) w 42 9 i (.string ByteArray.empty) Try.underlying42 hi hz .i64 .i64 n n (by omega) (by omega) (by rw [hb]; omega) (by omega)
  simp only [Int.toNat_natCast, hs, Nat.mul_one] at hr
  exact hr






end Go.Proofs.Ytfokpjoeankobaa

/- The table of powers of ten that the library's Itoa reads. No condition. -/
import Derived.Test.YtkmkmndcgemnlaaGreatDoorLib
import Derived.Test.YtkmkmndcgemnlaaGreatDoorChecked
import Derived.Lib.LaidTab
import Derived.Lib.AppendIntMem
import Derived.Stop.LaidErr
namespace Go.Proofs.YtkmkmndcgemnlaaGreatDoor
set_option linter.unusedVariables false
set_option linter.unusedSimpArgs false
set_option linter.unnecessarySimpa false
open Go.RowKit

/-- The table reads as its initialiser lays it. -/
def Tab (w : World) : Prop := Lib.TabIs Tryz.prog w "internal/strconv.uint64pow10" .u64 Lib.pow10Tab
theorem Tab.below {w w' : World} (h : Tab w) (hb : Below w.heap.size w w') : Tab w' := Lib.tabBelow_of_tabIs h w' hb
theorem tab_of_laid {W : World} {rest : List (String × DataW Unit)} (h : laidMet Tryz.prog (("internal/strconv.uint64pow10", Lib.tabData .u64 Lib.pow10Tab) :: rest) W) : Tab W :=
  Lib.tabIs_of_head (g := 3) (t := 181) (e := 164) (n := 20) (by kernel_rfl) (by kernel_rfl) Tryz.underlying181 Tryz.underlying164 (by kernel_rfl) (by kernel_rfl) h
end Go.Proofs.YtkmkmndcgemnlaaGreatDoor

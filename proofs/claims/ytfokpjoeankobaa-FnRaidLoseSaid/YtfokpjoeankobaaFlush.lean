/- DiskFlush and DiskCrash of the program. No condition on the memory; a disk that is valid. -/
import Derived.Test.YtfokpjoeankobaaSettle
namespace Go.Proofs.Ytfokpjoeankobaa
set_option linter.unusedSimpArgs false
set_option linter.unnecessarySimpa false
open Go.RowKit
set_option linter.unusedVariables false
def flushF (_ : Nat) (x : WaitD) (_ : ByteArray) : ByteArray := x.2
def keepF (_ : Nat) (_ : WaitD) (t : ByteArray) : ByteArray := t
end Go.Proofs.Ytfokpjoeankobaa

/- markText: a mark's text. Condition: the number is below 2^40. -/
import Derived.Test.YtggdjiklgakfnaaGreatDoorTypes
import Derived.Test.YtggdjiklgakfnaaGreatDoorChecked
import Derived.Laws.BytesArg
namespace Go.Proofs.YtggdjiklgakfnaaGreatDoor
set_option linter.unusedVariables false
set_option linter.unusedSimpArgs false
set_option linter.unnecessarySimpa false
open Go.RowKit

end Go.Proofs.YtggdjiklgakfnaaGreatDoor

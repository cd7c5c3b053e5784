/- markText: a mark's text. Condition: the number is below 2^40. -/
import Derived.Test.YtcfgbeajdkbbcaaGreatDoorTypes
import Derived.Test.YtcfgbeajdkbbcaaGreatDoorChecked
import Derived.Laws.BytesArg
namespace Go.Proofs.YtcfgbeajdkbbcaaGreatDoor
set_option linter.unusedVariables false
set_option linter.unusedSimpArgs false
set_option linter.unnecessarySimpa false
open Go.RowKit

end Go.Proofs.YtcfgbeajdkbbcaaGreatDoor

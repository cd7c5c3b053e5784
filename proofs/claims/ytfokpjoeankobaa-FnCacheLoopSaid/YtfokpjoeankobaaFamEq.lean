/- eq at each type: equal data are told equal. No condition. -/
import Derived.Test.YtfokpjoeankobaaTypes
import Derived.Test.YtfokpjoeankobaaChecked
namespace Go.Proofs.Ytfokpjoeankobaa
set_option linter.unusedVariables false
set_option linter.unusedSimpArgs false
set_option linter.unnecessarySimpa false
open Go.RowKit















end Go.Proofs.Ytfokpjoeankobaa

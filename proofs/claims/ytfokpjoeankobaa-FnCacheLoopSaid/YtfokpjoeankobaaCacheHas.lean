/- CacheHas, the program's and the reference's. Condition: the cache's lists have fewer than 2^30 members together. -/
import Derived.Test.YtfokpjoeankobaaCacheOk
namespace Go.Proofs.Ytfokpjoeankobaa
set_option linter.unusedVariables false
set_option linter.unusedSimpArgs false
set_option linter.unnecessarySimpa false
open Go.RowKit

def cacheHasB (x : CacheD) (row : Int) : Bool := cacheOkB x && (hasI x.2.2.1 row || hasI x.2.2.2.1 row)


end Go.Proofs.Ytfokpjoeankobaa

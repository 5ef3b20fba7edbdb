import Derived.Test.YtaminiganaagiaaDoorAbUb
import Derived.Test.YtaminiganaagiaaDoorAbZu
import Derived.LaidLaws
import Derived.JoinedCond
set_option linter.unusedVariables false
set_option linter.unusedSimpArgs false
namespace Go.Ab
open Go.RowKit Go.ChangeShapes Go.WideShapes Go.ChangeAt
end Go.Ab


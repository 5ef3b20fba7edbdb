import Derived.Test.YthmieigenefilaaGreatDoorAbUb
import Derived.OpenShut
set_option linter.unusedVariables false
set_option linter.unusedSimpArgs false
namespace Go.Ab
open Go.RowKit
end Go.Ab

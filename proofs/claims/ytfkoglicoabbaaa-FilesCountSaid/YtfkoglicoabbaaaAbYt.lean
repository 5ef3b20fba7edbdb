import Derived.Test.YtfkoglicoabbaaaAbY
set_option linter.unusedVariables false
set_option linter.unusedSimpArgs false
namespace Go.Ab
open Go.RowKit
variable {P : Program} {T : Tab} {α : Type} {A : Env}
end Go.Ab


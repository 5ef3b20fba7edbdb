import Derived.Test.YtfnmmlcmjmepjaaAbYg
import Derived.Deep.Upon
import Derived.Deep.Draws
set_option linter.unusedVariables false
set_option linter.unusedSimpArgs false
namespace Go.Ab
open Go.RowKit
variable {P : Program} {T : Tab} {α : Type}
end Go.Ab


import Derived.Test.YthmieigenefilaaGreatDoorQBTH
set_option linter.unusedVariables false
set_option linter.unusedSimpArgs false
set_option maxRecDepth 100000
namespace Go.Proofs
open Go.RowKit Go.Bn
end Go.Proofs

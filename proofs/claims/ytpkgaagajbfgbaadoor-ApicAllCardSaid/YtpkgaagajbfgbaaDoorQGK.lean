/- Plain lemmas of library functions: printed by program. -/
import Derived.Test.YtpkgaagajbfgbaaDoorQGM
import Derived.Test.YtpkgaagajbfgbaaDoorPLib
set_option linter.unusedSimpArgs false
set_option linter.unusedVariables false
namespace Go.Proofs.YtpkgaagajbfgbaaDoor
open Go Go.Ab
end Go.Proofs.YtpkgaagajbfgbaaDoor

/- A value by the kernel. -/
import Derived.Test.YtcaafoibabijgaaWalkA
set_option linter.unusedSimpArgs false
set_option linter.unusedVariables false
/- SHA-256 so that the kernel may evaluate it: numbers are brought to their values as they come. -/
namespace Go.Proofs.Ytcaafoibabijgaa
open Go Go.Am
set_option maxRecDepth 100000
set_option linter.unusedVariables false

end Go.Proofs.Ytcaafoibabijgaa

/- Walks: the references' digests. -/
import Derived.Test.YtcaafoibabijgaaWalkA
set_option linter.unusedSimpArgs false
set_option linter.unusedVariables false
/- The reference's turn and eight. -/
namespace Go.Proofs.Ytcaafoibabijgaa
open Go Go.Am
set_option maxRecDepth 100000
set_option linter.unusedVariables false

end Go.Proofs.Ytcaafoibabijgaa

/- The reference's block. -/
namespace Go.Proofs.Ytcaafoibabijgaa
open Go Go.Am
set_option maxRecDepth 100000
set_option linter.unusedVariables false

end Go.Proofs.Ytcaafoibabijgaa

/- The reference's pad, sum, Sum. -/
namespace Go.Proofs.Ytcaafoibabijgaa
open Go Go.Am
set_option maxRecDepth 100000
set_option linter.unusedVariables false

end Go.Proofs.Ytcaafoibabijgaa

/- The reference's sum, Sum. -/
namespace Go.Proofs.Ytcaafoibabijgaa
open Go Go.Am
set_option maxRecDepth 100000
set_option linter.unusedVariables false

@[simp] theorem S8l_length (s : S8) : s.l.length = 8 := rfl
theorem padN_mod (l : List Nat) : (padN l).length % 64 = 0 := by simp [padN]; omega
end Go.Proofs.Ytcaafoibabijgaa

/- The reference's Frame, Tagged, Pair, Leaf, Above. -/
namespace Go.Proofs.Ytcaafoibabijgaa
open Go Go.Am
set_option maxRecDepth 100000
set_option linter.unusedVariables false

end Go.Proofs.Ytcaafoibabijgaa

/- FnExactConstants without Go: the answer is true. -/
import Derived.Test.YtlgdkpoaldaabaaPFnExactConstantsx1
set_option linter.unusedVariables false
set_option linter.unusedSimpArgs false
set_option maxHeartbeats 400000
namespace Go.Proofs.Ytlgdkpoaldaabaa.Pure
open Go.RowKit Go.Proofs.Ytlgdkpoaldaabaa.PFnExactConstants Go.Proofs.YtlgdkpoaldaabaaW.PrintWords Go.Proofs.YtlgdkpoaldaabaaW.PrintLast
/-! ### FnExactConstants -/
theorem FnExactConstants : laws_FnExactConstants.Pure := rfl

end Go.Proofs.Ytlgdkpoaldaabaa.Pure

/-
  The small helpers of the statements on layer 19, walked.
-/
import Derived.Test.YtammacofhdbgcaaRows
import Derived.Test.YtammacofhdbgcaaRepsValue
import Derived.Test.YtammacofhdbgcaaRepsRef
import Derived.Test.YtammacofhdbgcaaCommon
import Derived.Deep.Light
namespace Go.Proofs.Ytammacofhdbgcaa
open Go.RowKit
set_option linter.unusedSimpArgs false
set_option linter.unusedVariables false
attribute [local go_sem] eq23 idx23_0 idx23_1 idx23_2 tup

end Go.Proofs.Ytammacofhdbgcaa

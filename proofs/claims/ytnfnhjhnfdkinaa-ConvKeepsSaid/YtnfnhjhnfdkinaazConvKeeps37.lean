/-
  ConvKeeps: texts of this claim, put together by a program of this session. No conditions beyond what each lemma says.
-/
import Derived.Test.YtnfnhjhnfdkinaazConvKeeps10
import Derived.Test.YtnfnhjhnfdkinaazConvKeeps14
namespace Go.Proofs.Ytnfnhjhnfdkinaa.PConvBack
open Go.RowKit Go.Proofs.YtnfnhjhnfdkinaaW.Mine Go.Proofs.YtnfnhjhnfdkinaaW.PrintWords Go.Proofs.YtnfnhjhnfdkinaaW.PrintLast Go.Proofs.YtnfnhjhnfdkinaaW.PrintMore
attribute [local go_sem] max2_int min2_int max_two min_two max_three min_three max_four min_four   -- for this text's walks alone
set_option linter.unusedVariables false
set_option linter.unusedSimpArgs false

/-! ### limbeckref04_SameAll: function 50 -/
-- NOT PRINTED: function 83 (limbeckref26_SameVals)

-- NOT PRINTED: function 46 (limbeckref26_SameVal)

/-! ### limbecklaw31_ConvBack: function 12 -/
end Go.Proofs.Ytnfnhjhnfdkinaa.PConvBack

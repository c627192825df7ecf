/- Functions of the program as Lean functions, and that the Go code comes to what they say, for every input on which they answer. Written by a program of this session. -/
import Derived.Test.YtnfnhjhnfdkinaaPPrecListsx0
namespace Go.Proofs.Ytnfnhjhnfdkinaa.PPrecLists
open Go.RowKit Go.Proofs.YtnfnhjhnfdkinaaW.Mine Go.Proofs.YtnfnhjhnfdkinaaW.PrintWords Go.Proofs.YtnfnhjhnfdkinaaW.PrintLast Go.Proofs.YtnfnhjhnfdkinaaW.PrintMore
attribute [local go_sem] max2_int min2_int max_two min_two max_three min_three max_four min_four   -- for this text's walks alone
set_option linter.unusedVariables false
set_option linter.unusedSimpArgs false

/-! ### limbecklaw08_PrecLists: function 10 -/
def limbecklaw08_PrecLists.f (k : Nat) (l0 : List S43) (l1 : List S43) : Option Bool := some true



end Go.Proofs.Ytnfnhjhnfdkinaa.PPrecLists

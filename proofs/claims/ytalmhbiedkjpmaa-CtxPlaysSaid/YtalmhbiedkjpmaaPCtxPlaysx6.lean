/- Functions of the program as Lean functions, and that the Go code comes to what they say, for every input on which they answer. Written by a program of this session. -/
import Derived.Test.YtalmhbiedkjpmaaPCtxPlaysx0
namespace Go.Proofs.Ytalmhbiedkjpmaa.PCtxPlays
open Go.RowKit Go.Proofs.YtalmhbiedkjpmaaW.Mine Go.Proofs.YtalmhbiedkjpmaaW.PrintWords Go.Proofs.YtalmhbiedkjpmaaW.PrintLast Go.Proofs.YtalmhbiedkjpmaaW.PrintMore
attribute [local go_sem] max2_int min2_int max_two min_two max_three min_three max_four min_four   -- for this text's walks alone
set_option linter.unusedVariables false
set_option linter.unusedSimpArgs false

/-! ### limbecklaw20_CtxPlays: function 3 -/
def limbecklaw20_CtxPlays.f (k : Nat) (l0 l1 : List S33) (a2 : ByteArray) : Option Bool :=
  some true
theorem limbecklaw20_CtxPlays.calls : True := trivial


end Go.Proofs.Ytalmhbiedkjpmaa.PCtxPlays

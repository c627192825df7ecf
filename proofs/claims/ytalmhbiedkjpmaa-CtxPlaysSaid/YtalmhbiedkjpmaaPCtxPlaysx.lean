/- Functions of the program as Lean functions, and that the Go code comes to what they say, for every input on which they answer. Written by a program of this session. -/
import Derived.Test.YtalmhbiedkjpmaaPCtxPlaysx0
import Derived.Test.YtalmhbiedkjpmaaPCtxPlaysx1
import Derived.Test.YtalmhbiedkjpmaaPCtxPlaysx2
import Derived.Test.YtalmhbiedkjpmaaPCtxPlaysx3
import Derived.Test.YtalmhbiedkjpmaaPCtxPlaysx4
import Derived.Test.YtalmhbiedkjpmaaPCtxPlaysx5
import Derived.Test.YtalmhbiedkjpmaaPCtxPlaysx6
namespace Go.Proofs.Ytalmhbiedkjpmaa.PCtxPlays
open Go.RowKit Go.Proofs.YtalmhbiedkjpmaaW.Mine Go.Proofs.YtalmhbiedkjpmaaW.PrintWords Go.Proofs.YtalmhbiedkjpmaaW.PrintLast Go.Proofs.YtalmhbiedkjpmaaW.PrintMore
attribute [local go_sem] max2_int min2_int max_two min_two max_three min_three max_four min_four   -- for this text's walks alone
set_option linter.unusedVariables false
set_option linter.unusedSimpArgs false

end Go.Proofs.Ytalmhbiedkjpmaa.PCtxPlays

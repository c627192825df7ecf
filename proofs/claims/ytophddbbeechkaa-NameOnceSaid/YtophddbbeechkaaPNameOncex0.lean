/- Functions of the program as Lean functions, and that the Go code comes to what they say, for every input on which they answer. Written by a program of this session. -/
import Derived.Test.YtophddbbeechkaaProg
import Derived.Below
import Derived.Deep.Draws
import Derived.Deep.AppendLies
import Derived.Maps.AppendAt
import Derived.OwnWalk
import Derived.Laws.BytesArg
import Derived.Laws.MakeOwn
import Derived.Laws.OwnMore
import Derived.Deep.OwnRows
import Derived.Tactics
import Derived.Lib.ConvBytes
import Derived.Laws.Slices
import Derived.WalkKit
import Derived.KernelRfl
import Derived.RowKit3
import Derived.Deep.LoopGhost
import Derived.Deep.QuietTactic
import Derived.BigQuiet
import Derived.WideLaws
import Derived.Deep.DeepCutAuto
import Derived.Deep.CutBlock
import Derived.Deep.RegionHeld3
import Derived.Laws.Rows
import Derived.Lib.AppendStr
import Derived.ArgAppend
import Derived.Laws.IdiomCopy
import Derived.OrdersHeld
import Derived.Laws.BitsLemmas
import Derived.RowKit
import Derived.Lib.OthersKept
import Derived.Shelf.Abstract
import Derived.Test.YtophddbbeechkaaWMine
import Derived.Test.YtophddbbeechkaaWWords
import Derived.Test.YtophddbbeechkaaWLast
import Derived.Test.YtophddbbeechkaaWTab
import Derived.Test.YtophddbbeechkaaWFour
import Derived.Test.YtophddbbeechkaaWQPut
import Derived.Test.YtophddbbeechkaaWApart
import Derived.Test.YtophddbbeechkaaWArr
import Derived.Test.YtophddbbeechkaaWZeros
import Derived.Test.YtophddbbeechkaaWFoot
import Derived.Test.YtophddbbeechkaaWKept
import Derived.Test.YtophddbbeechkaaWShare
import Derived.Test.YtophddbbeechkaaWN
import Derived.Test.YtophddbbeechkaaWFootNe
import Derived.Test.YtophddbbeechkaaWAt
import Derived.Test.YtophddbbeechkaaWEqStruct
import Derived.Test.YtophddbbeechkaaWRepsOne
import Derived.Test.YtophddbbeechkaaWInv
import Derived.Test.YtophddbbeechkaaWInvWords
import Derived.Test.YtophddbbeechkaaWGuard
import Derived.Test.YtophddbbeechkaaWNEv
import Derived.Test.YtophddbbeechkaaWMore
namespace Go.Proofs.Ytophddbbeechkaa.PNameOnce
open Go.RowKit Go.Proofs.YtophddbbeechkaaW.PrintWords Go.Proofs.YtophddbbeechkaaW.PrintLast Go.Proofs.YtophddbbeechkaaW.PrintMore
attribute [local go_sem] max2_int min2_int max_two min_two max_three min_three max_four min_four   -- for this text's walks alone
set_option linter.unusedVariables false
set_option linter.unusedSimpArgs false



def errW : Option Int → Value
  | none => .nilIface
  | some c => .iface 0 (.int .i64 c)
theorem errW_none : errW none = .nilIface := rfl
theorem errW_some (c : Int) : errW (some c) = .iface 0 (.int .i64 c) := rfl

theorem info9 : (Try.prog.info? 9).map (fun i => (i.zero, i.size, i.bytes)) = some (some (.string ⟨#[]⟩), 1, 16) := by kernel_rfl
-- the values' own types

end Go.Proofs.Ytophddbbeechkaa.PNameOnce

/-
  NARROWER THAN 'FOR EVERY INPUT', by the rows' own cells (each row's printed sentence says how): CtxPlays: loops · CtxStays: loops · CtxNone: loops · EnvStays: loops · EnvNone: loops · EnvPlays: loops.
  DERIVED. THE GIVEN ROWS OF THIS SEAT. 6 by the template 'for every input the law returns true; each argument reads behind the call as it read before'; 0 by the template 'total and deterministic' (their statements: YtalmhbiedkjpmaaTotals.lean).
  GIVEN WITH THE SEED: the statements are not yours to turn. If you find one false, say at which input.
  Laid BY PROGRAM, IN A SANDBOX (cutbox-rows.mjs): the forced cells as the released guide's own fill.sh prints them over the translation 00b83501821bcea4… (all of the seat's roots in one cut). By AI agents, Wed Nov 11 2026. No macro, syntax, notation, axiom, sorry.
-/
import Derived.Test.YtalmhbiedkjpmaaChecked
import GoSem.Claim
import GoSem.ClaimJoined
import GoSem.ClaimMapViews
import Derived.JoinedTies
import Derived.KernelRfl
namespace Go.Proofs.Ytalmhbiedkjpmaa
/- THE CELL 'sum', in the pinned program and in every row, IS THE sha256 OF THE DUMP (.gsa) THAT YtalmhbiedkjpmaaProg.lean LOADS. Nothing in Lean hashes anything: it is a label: what it is worth is what the hold of that sum in a sandbox is worth. -/
noncomputable def Try.pinned : Pinned := { name := "ytalmhbiedkjpmaa", sum := "00b83501821bcea40670605e70ca4930c9300a4acbb03fe8c4e15fdaef3f72b8", checked := Try.checked }
namespace Rows
def none {H : Type} : Left H := { results := [], args := [] }

/-- 'limbecklaw20.CtxPlays': WHATEVER THE INPUT: true; the input reads as it did. -/
def ctxPlaysSpec : ChangeSpec := { name := "ctxPlays", fn := fun _ => fun
  | [d1, d2, d3] => { results := [.lit (.bool true)], args := [d1, d2, d3] }
  | _ => none }
def ctxPlaysRow : OpenClaim := { program := "ytalmhbiedkjpmaa", sum := "00b83501821bcea40670605e70ca4930c9300a4acbb03fe8c4e15fdaef3f72b8", func := "limbeck/limbecklaw20.CtxPlays", spec := "ctxPlays", unfollowed := true, recurses := true, loops := true, apart := false }
def CtxPlaysSaid : Prop := ctxPlaysRow.holds Try.pinned (OpenSpec.ofChange ctxPlaysSpec)

/-- ITS FALSE NEIGHBOUR: 'it returns false'. Refute it at one input. -/
def ctxPlaysWrong : ChangeSpec := { name := "ctxPlays", fn := fun _ => fun
  | [d1, d2, d3] => { results := [.lit (.bool false)], args := [d1, d2, d3] }
  | _ => none }
def CtxPlaysWrongFalsely : Prop := ctxPlaysRow.holds Try.pinned (OpenSpec.ofChange ctxPlaysWrong)

/-- 'limbecklaw20.CtxStays': WHATEVER THE INPUT: true; the input reads as it did. -/
def ctxStaysSpec : ChangeSpec := { name := "ctxStays", fn := fun _ => fun
  | [d1, d2, d3] => { results := [.lit (.bool true)], args := [d1, d2, d3] }
  | _ => none }
def ctxStaysRow : OpenClaim := { program := "ytalmhbiedkjpmaa", sum := "00b83501821bcea40670605e70ca4930c9300a4acbb03fe8c4e15fdaef3f72b8", func := "limbeck/limbecklaw20.CtxStays", spec := "ctxStays", unfollowed := true, recurses := true, loops := true, apart := false }
def CtxStaysSaid : Prop := ctxStaysRow.holds Try.pinned (OpenSpec.ofChange ctxStaysSpec)

/-- ITS FALSE NEIGHBOUR: 'it returns false'. Refute it at one input. -/
def ctxStaysWrong : ChangeSpec := { name := "ctxStays", fn := fun _ => fun
  | [d1, d2, d3] => { results := [.lit (.bool false)], args := [d1, d2, d3] }
  | _ => none }
def CtxStaysWrongFalsely : Prop := ctxStaysRow.holds Try.pinned (OpenSpec.ofChange ctxStaysWrong)

/-- 'limbecklaw20.CtxNone': WHATEVER THE INPUT: true; the input reads as it did. -/
def ctxNoneSpec : ChangeSpec := { name := "ctxNone", fn := fun _ => fun
  | [d1, d2] => { results := [.lit (.bool true)], args := [d1, d2] }
  | _ => none }
def ctxNoneRow : OpenClaim := { program := "ytalmhbiedkjpmaa", sum := "00b83501821bcea40670605e70ca4930c9300a4acbb03fe8c4e15fdaef3f72b8", func := "limbeck/limbecklaw20.CtxNone", spec := "ctxNone", unfollowed := true, recurses := true, loops := true, apart := false }
def CtxNoneSaid : Prop := ctxNoneRow.holds Try.pinned (OpenSpec.ofChange ctxNoneSpec)

/-- ITS FALSE NEIGHBOUR: 'it returns false'. Refute it at one input. -/
def ctxNoneWrong : ChangeSpec := { name := "ctxNone", fn := fun _ => fun
  | [d1, d2] => { results := [.lit (.bool false)], args := [d1, d2] }
  | _ => none }
def CtxNoneWrongFalsely : Prop := ctxNoneRow.holds Try.pinned (OpenSpec.ofChange ctxNoneWrong)

/-- 'limbecklaw34.EnvStays': WHATEVER THE INPUT: true; the input reads as it did. -/
def envStaysSpec : ChangeSpec := { name := "envStays", fn := fun _ => fun
  | [d1, d2, d3, d4, d5, d6] => { results := [.lit (.bool true)], args := [d1, d2, d3, d4, d5, d6] }
  | _ => none }
def envStaysRow : OpenClaim := { program := "ytalmhbiedkjpmaa", sum := "00b83501821bcea40670605e70ca4930c9300a4acbb03fe8c4e15fdaef3f72b8", func := "limbeck/limbecklaw34.EnvStays", spec := "envStays", unfollowed := true, recurses := true, loops := true, apart := false }
def EnvStaysSaid : Prop := envStaysRow.holds Try.pinned (OpenSpec.ofChange envStaysSpec)

/-- ITS FALSE NEIGHBOUR: 'it returns false'. Refute it at one input. -/
def envStaysWrong : ChangeSpec := { name := "envStays", fn := fun _ => fun
  | [d1, d2, d3, d4, d5, d6] => { results := [.lit (.bool false)], args := [d1, d2, d3, d4, d5, d6] }
  | _ => none }
def EnvStaysWrongFalsely : Prop := envStaysRow.holds Try.pinned (OpenSpec.ofChange envStaysWrong)

/-- 'limbecklaw34.EnvNone': WHATEVER THE INPUT: true; the input reads as it did. -/
def envNoneSpec : ChangeSpec := { name := "envNone", fn := fun _ => fun
  | [d1, d2, d3] => { results := [.lit (.bool true)], args := [d1, d2, d3] }
  | _ => none }
def envNoneRow : OpenClaim := { program := "ytalmhbiedkjpmaa", sum := "00b83501821bcea40670605e70ca4930c9300a4acbb03fe8c4e15fdaef3f72b8", func := "limbeck/limbecklaw34.EnvNone", spec := "envNone", unfollowed := true, recurses := true, loops := true, apart := false }
def EnvNoneSaid : Prop := envNoneRow.holds Try.pinned (OpenSpec.ofChange envNoneSpec)

/-- ITS FALSE NEIGHBOUR: 'it returns false'. Refute it at one input. -/
def envNoneWrong : ChangeSpec := { name := "envNone", fn := fun _ => fun
  | [d1, d2, d3] => { results := [.lit (.bool false)], args := [d1, d2, d3] }
  | _ => none }
def EnvNoneWrongFalsely : Prop := envNoneRow.holds Try.pinned (OpenSpec.ofChange envNoneWrong)

/-- 'limbecklaw34.EnvPlays': WHATEVER THE INPUT: true; the input reads as it did. -/
def envPlaysSpec : ChangeSpec := { name := "envPlays", fn := fun _ => fun
  | [d1, d2, d3, d4, d5] => { results := [.lit (.bool true)], args := [d1, d2, d3, d4, d5] }
  | _ => none }
def envPlaysRow : OpenClaim := { program := "ytalmhbiedkjpmaa", sum := "00b83501821bcea40670605e70ca4930c9300a4acbb03fe8c4e15fdaef3f72b8", func := "limbeck/limbecklaw34.EnvPlays", spec := "envPlays", unfollowed := true, recurses := true, loops := true, apart := false }
def EnvPlaysSaid : Prop := envPlaysRow.holds Try.pinned (OpenSpec.ofChange envPlaysSpec)

/-- ITS FALSE NEIGHBOUR: 'it returns false'. Refute it at one input. -/
def envPlaysWrong : ChangeSpec := { name := "envPlays", fn := fun _ => fun
  | [d1, d2, d3, d4, d5] => { results := [.lit (.bool false)], args := [d1, d2, d3, d4, d5] }
  | _ => none }
def EnvPlaysWrongFalsely : Prop := envPlaysRow.holds Try.pinned (OpenSpec.ofChange envPlaysWrong)

/- THE SECOND FORM. 'bulk': how many values and letters a reading holds, each counted each time it is reached (what is shared counts as often as it is met; a slice's spare places count too). A statement '..UptoSaid' is the law's where the arguments, and the package variables that the reading takes, are together of bulk at most 1048576: NARROWER than '..Said'. Prove '..Said' where nothing that the law and all that it calls make is longer than what came in: it says more and counts as full. Else prove '..UptoSaid'. A law counts once. -/
mutual
def uptoBulk {H : Type} : DataW H → Nat
  | .lit (.string bytes) => bytes.length + 1
  | .lit _ => 1
  | .nil => 1
  | .ptr d => uptoBulk d + 1
  | .slice elems spare => uptoBulkAll elems + uptoBulkAll spare + 1
  | .agg parts => uptoBulkAll parts + 1
  | .iface _ d => uptoBulk d + 1
  | .map entries => uptoBulkEntries entries + 1
  | .held _ => 1
def uptoBulkAll {H : Type} : List (DataW H) → Nat
  | [] => 0
  | d :: r => uptoBulk d + uptoBulkAll r
def uptoBulkEntries {H : Type} : List (Lit × DataW H) → Nat
  | [] => 0
  | x :: r => uptoBulkEntry x + uptoBulkEntries r
def uptoBulkEntry {H : Type} : Lit × DataW H → Nat
  | (.string bytes, d) => bytes.length + uptoBulk d + 1
  | (_, d) => uptoBulk d + 1
 end
def uptoSmall : (H : Type) → List (DataW H) → Bool := fun _ ds => decide (uptoBulkAll ds ≤ 1048576)
def OpenSpec.upto (s : _root_.Go.ChangeSpec) : _root_.Go.OpenSpec := { _root_.Go.OpenSpec.ofChange s with cond := some uptoSmall }

/-- 'limbecklaw20.CtxPlays', WHERE WHAT IT READS IS OF BULK AT MOST 1048576: true; the input reads as it did. -/
def ctxPlaysUptoRow : OpenClaim := { program := "ytalmhbiedkjpmaa", sum := "00b83501821bcea40670605e70ca4930c9300a4acbb03fe8c4e15fdaef3f72b8", func := "limbeck/limbecklaw20.CtxPlays", spec := "ctxPlays", unfollowed := true, recurses := true, loops := true, apart := false, narrowed := true }
def CtxPlaysUptoSaid : Prop := ctxPlaysUptoRow.holds Try.pinned (OpenSpec.upto ctxPlaysSpec)

/-- 'limbecklaw20.CtxStays', WHERE WHAT IT READS IS OF BULK AT MOST 1048576: true; the input reads as it did. -/
def ctxStaysUptoRow : OpenClaim := { program := "ytalmhbiedkjpmaa", sum := "00b83501821bcea40670605e70ca4930c9300a4acbb03fe8c4e15fdaef3f72b8", func := "limbeck/limbecklaw20.CtxStays", spec := "ctxStays", unfollowed := true, recurses := true, loops := true, apart := false, narrowed := true }
def CtxStaysUptoSaid : Prop := ctxStaysUptoRow.holds Try.pinned (OpenSpec.upto ctxStaysSpec)

/-- 'limbecklaw20.CtxNone', WHERE WHAT IT READS IS OF BULK AT MOST 1048576: true; the input reads as it did. -/
def ctxNoneUptoRow : OpenClaim := { program := "ytalmhbiedkjpmaa", sum := "00b83501821bcea40670605e70ca4930c9300a4acbb03fe8c4e15fdaef3f72b8", func := "limbeck/limbecklaw20.CtxNone", spec := "ctxNone", unfollowed := true, recurses := true, loops := true, apart := false, narrowed := true }
def CtxNoneUptoSaid : Prop := ctxNoneUptoRow.holds Try.pinned (OpenSpec.upto ctxNoneSpec)

/-- 'limbecklaw34.EnvStays', WHERE WHAT IT READS IS OF BULK AT MOST 1048576: true; the input reads as it did. -/
def envStaysUptoRow : OpenClaim := { program := "ytalmhbiedkjpmaa", sum := "00b83501821bcea40670605e70ca4930c9300a4acbb03fe8c4e15fdaef3f72b8", func := "limbeck/limbecklaw34.EnvStays", spec := "envStays", unfollowed := true, recurses := true, loops := true, apart := false, narrowed := true }
def EnvStaysUptoSaid : Prop := envStaysUptoRow.holds Try.pinned (OpenSpec.upto envStaysSpec)

/-- 'limbecklaw34.EnvNone', WHERE WHAT IT READS IS OF BULK AT MOST 1048576: true; the input reads as it did. -/
def envNoneUptoRow : OpenClaim := { program := "ytalmhbiedkjpmaa", sum := "00b83501821bcea40670605e70ca4930c9300a4acbb03fe8c4e15fdaef3f72b8", func := "limbeck/limbecklaw34.EnvNone", spec := "envNone", unfollowed := true, recurses := true, loops := true, apart := false, narrowed := true }
def EnvNoneUptoSaid : Prop := envNoneUptoRow.holds Try.pinned (OpenSpec.upto envNoneSpec)

/-- 'limbecklaw34.EnvPlays', WHERE WHAT IT READS IS OF BULK AT MOST 1048576: true; the input reads as it did. -/
def envPlaysUptoRow : OpenClaim := { program := "ytalmhbiedkjpmaa", sum := "00b83501821bcea40670605e70ca4930c9300a4acbb03fe8c4e15fdaef3f72b8", func := "limbeck/limbecklaw34.EnvPlays", spec := "envPlays", unfollowed := true, recurses := true, loops := true, apart := false, narrowed := true }
def EnvPlaysUptoSaid : Prop := envPlaysUptoRow.holds Try.pinned (OpenSpec.upto envPlaysSpec)

end Rows
end Go.Proofs.Ytalmhbiedkjpmaa

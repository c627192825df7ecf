/-
  No cell of these rows narrows 'for every input' (looked for: loops, veiled, ifaces, maps, wideKeys, modest, calm, conditions, laid).
  DERIVED. THE GIVEN ROWS OF THIS SEAT. 3 by the template 'for every input the law returns true; each argument reads behind the call as it read before'; 0 by the template 'total and deterministic' (their statements: YtophddbbeechkaaTotals.lean).
  GIVEN WITH THE SEED: the statements are not yours to turn. If you find one false, say at which input.
  Laid BY PROGRAM, IN A SANDBOX (cutbox-rows.mjs): the forced cells as the released guide's own fill.sh prints them over the translation 44c323e3e4dc88eb… (all of the seat's roots in one cut). By AI agents, Wed Nov 11 2026. No macro, syntax, notation, axiom, sorry.
-/
import Derived.Test.YtophddbbeechkaaChecked
import GoSem.Claim
import GoSem.ClaimJoined
import GoSem.ClaimMapViews
import Derived.JoinedTies
import Derived.KernelRfl
namespace Go.Proofs.Ytophddbbeechkaa
/- THE CELL 'sum', in the pinned program and in every row, IS THE sha256 OF THE DUMP (.gsa) THAT YtophddbbeechkaaProg.lean LOADS. Nothing in Lean hashes anything: it is a label: what it is worth is what the hold of that sum in a sandbox is worth. -/
noncomputable def Try.pinned : Pinned := { name := "ytophddbbeechkaa", sum := "44c323e3e4dc88eb7ed2af9c576add699408b08cf3e56a97b43e8eda7fcdb22d", checked := Try.checked }
namespace Rows
def none {H : Type} : Left H := { results := [], args := [] }

/-- 'limbecklaw01.NameKinds': WHATEVER THE INPUT: true; the input reads as it did. -/
def nameKindsSpec : ChangeSpec := { name := "nameKinds", fn := fun _ => fun
  | [d] => { results := [.lit (.bool true)], args := [d] }
  | _ => none }
def nameKindsRow : OpenClaim := { program := "ytophddbbeechkaa", sum := "44c323e3e4dc88eb7ed2af9c576add699408b08cf3e56a97b43e8eda7fcdb22d", func := "limbeck/limbecklaw01.NameKinds", spec := "nameKinds", apart := false }
def NameKindsSaid : Prop := nameKindsRow.holds Try.pinned (OpenSpec.ofChange nameKindsSpec)

/-- ITS FALSE NEIGHBOUR: 'it returns false'. Refute it at one input. -/
def nameKindsWrong : ChangeSpec := { name := "nameKinds", fn := fun _ => fun
  | [d] => { results := [.lit (.bool false)], args := [d] }
  | _ => none }
def NameKindsWrongFalsely : Prop := nameKindsRow.holds Try.pinned (OpenSpec.ofChange nameKindsWrong)

/-- 'limbecklaw01.NameLists': WHATEVER THE INPUT: true; the input reads as it did. -/
def nameListsSpec : ChangeSpec := { name := "nameLists", fn := fun _ => fun
  | [d1, d2] => { results := [.lit (.bool true)], args := [d1, d2] }
  | _ => none }
def nameListsRow : OpenClaim := { program := "ytophddbbeechkaa", sum := "44c323e3e4dc88eb7ed2af9c576add699408b08cf3e56a97b43e8eda7fcdb22d", func := "limbeck/limbecklaw01.NameLists", spec := "nameLists", apart := false }
def NameListsSaid : Prop := nameListsRow.holds Try.pinned (OpenSpec.ofChange nameListsSpec)

/-- ITS FALSE NEIGHBOUR: 'it returns false'. Refute it at one input. -/
def nameListsWrong : ChangeSpec := { name := "nameLists", fn := fun _ => fun
  | [d1, d2] => { results := [.lit (.bool false)], args := [d1, d2] }
  | _ => none }
def NameListsWrongFalsely : Prop := nameListsRow.holds Try.pinned (OpenSpec.ofChange nameListsWrong)

/-- 'limbecklaw01.NameOnce': WHATEVER THE INPUT: true; the input reads as it did. -/
def nameOnceSpec : ChangeSpec := { name := "nameOnce", fn := fun _ => fun
  | [d1, d2] => { results := [.lit (.bool true)], args := [d1, d2] }
  | _ => none }
def nameOnceRow : OpenClaim := { program := "ytophddbbeechkaa", sum := "44c323e3e4dc88eb7ed2af9c576add699408b08cf3e56a97b43e8eda7fcdb22d", func := "limbeck/limbecklaw01.NameOnce", spec := "nameOnce", apart := false }
def NameOnceSaid : Prop := nameOnceRow.holds Try.pinned (OpenSpec.ofChange nameOnceSpec)

/-- ITS FALSE NEIGHBOUR: 'it returns false'. Refute it at one input. -/
def nameOnceWrong : ChangeSpec := { name := "nameOnce", fn := fun _ => fun
  | [d1, d2] => { results := [.lit (.bool false)], args := [d1, d2] }
  | _ => none }
def NameOnceWrongFalsely : Prop := nameOnceRow.holds Try.pinned (OpenSpec.ofChange nameOnceWrong)

/- THE SECOND FORM. 'bulk': how many values and letters a reading holds, each counted each time it is reached (what is shared counts as often as it is met; a slice's spare places count too). A statement '..UptoSaid' is the law's where the arguments, and the package variables that the reading takes, are together of bulk at most 1048576: NARROWER than '..Said'. Prove '..Said' where nothing that the law and all that it calls make is longer than what came in: it says more and counts as full. Else prove '..UptoSaid'. A law counts once. -/
mutual
def uptoBulk {H : Type} : DataW H → Nat
  | .lit (.string bytes) => bytes.length + 1
  | .lit _ => 1
  | .nil => 1
  | .ptr d => uptoBulk d + 1
  | .slice elems spare => uptoBulkAll elems + uptoBulkAll spare + 1
  | .agg parts => uptoBulkAll parts + 1
  | .iface _ d => uptoBulk d + 1
  | .map entries => uptoBulkEntries entries + 1
  | .held _ => 1
def uptoBulkAll {H : Type} : List (DataW H) → Nat
  | [] => 0
  | d :: r => uptoBulk d + uptoBulkAll r
def uptoBulkEntries {H : Type} : List (Lit × DataW H) → Nat
  | [] => 0
  | x :: r => uptoBulkEntry x + uptoBulkEntries r
def uptoBulkEntry {H : Type} : Lit × DataW H → Nat
  | (.string bytes, d) => bytes.length + uptoBulk d + 1
  | (_, d) => uptoBulk d + 1
 end
def uptoSmall : (H : Type) → List (DataW H) → Bool := fun _ ds => decide (uptoBulkAll ds ≤ 1048576)
def OpenSpec.upto (s : _root_.Go.ChangeSpec) : _root_.Go.OpenSpec := { _root_.Go.OpenSpec.ofChange s with cond := some uptoSmall }

/-- 'limbecklaw01.NameKinds', WHERE WHAT IT READS IS OF BULK AT MOST 1048576: true; the input reads as it did. -/
def nameKindsUptoRow : OpenClaim := { program := "ytophddbbeechkaa", sum := "44c323e3e4dc88eb7ed2af9c576add699408b08cf3e56a97b43e8eda7fcdb22d", func := "limbeck/limbecklaw01.NameKinds", spec := "nameKinds", apart := false, narrowed := true }
def NameKindsUptoSaid : Prop := nameKindsUptoRow.holds Try.pinned (OpenSpec.upto nameKindsSpec)

/-- 'limbecklaw01.NameLists', WHERE WHAT IT READS IS OF BULK AT MOST 1048576: true; the input reads as it did. -/
def nameListsUptoRow : OpenClaim := { program := "ytophddbbeechkaa", sum := "44c323e3e4dc88eb7ed2af9c576add699408b08cf3e56a97b43e8eda7fcdb22d", func := "limbeck/limbecklaw01.NameLists", spec := "nameLists", apart := false, narrowed := true }
def NameListsUptoSaid : Prop := nameListsUptoRow.holds Try.pinned (OpenSpec.upto nameListsSpec)

/-- 'limbecklaw01.NameOnce', WHERE WHAT IT READS IS OF BULK AT MOST 1048576: true; the input reads as it did. -/
def nameOnceUptoRow : OpenClaim := { program := "ytophddbbeechkaa", sum := "44c323e3e4dc88eb7ed2af9c576add699408b08cf3e56a97b43e8eda7fcdb22d", func := "limbeck/limbecklaw01.NameOnce", spec := "nameOnce", apart := false, narrowed := true }
def NameOnceUptoSaid : Prop := nameOnceUptoRow.holds Try.pinned (OpenSpec.upto nameOnceSpec)

end Rows
end Go.Proofs.Ytophddbbeechkaa

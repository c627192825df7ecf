/-
  NARROWER THAN 'FOR EVERY INPUT', by the rows' own cells (each row's printed sentence says how): PrimTells: loops, laid · PrimMakes: laid · PrimOrder: laid · PrimDivides: laid · PrimTexts: laid.
  DERIVED. THE GIVEN ROWS OF THIS SEAT. 5 by the template 'for every input the law returns true; each argument reads behind the call as it read before'; 0 by the template 'total and deterministic' (their statements: YtophddbbeechkaaDoorTotals.lean).
  GIVEN WITH THE SEED: the statements are not yours to turn. If you find one false, say at which input.
  Laid BY PROGRAM, IN A SANDBOX (cutbox-rows.mjs): the forced cells as the released guide's own fill.sh prints them over the translation 14a27fa1dae4620f… (all of the seat's roots in one cut). By AI agents, Wed Nov 11 2026. No macro, syntax, notation, axiom, sorry.
-/
import Derived.Test.YtophddbbeechkaaDoorChecked
import GoSem.Claim
import GoSem.ClaimJoined
import GoSem.ClaimMapViews
import Derived.JoinedTies
import Derived.KernelRfl
namespace Go.Proofs.YtophddbbeechkaaDoor
/- THE CELL 'sum', in the pinned program and in every row, IS THE sha256 OF THE DUMP (.gsa) THAT YtophddbbeechkaaDoorProg.lean LOADS. Nothing in Lean hashes anything: it is a label: what it is worth is what the hold of that sum in a sandbox is worth. -/
noncomputable def Tryd.pinned : Pinned := { name := "ytophddbbeechkaadoor", sum := "14a27fa1dae4620f7147f688df0c37752fefe555fe2542dcdd29a2bfe28658cf", checked := Tryd.checked }
namespace Rows
def none {H : Type} : Left H := { results := [], args := [] }

/- WHAT THE LISTED PACKAGE-LEVEL VARIABLES READ AS WHEN THE CALL BEGINS. Each datum BY PROGRAM (the guide's laid-datum.mjs) off the statement by which the dump's own 'gosem.cut.vars' lays the variable. In a bare row this is a premise. The card (YtophddbbeechkaaDoorCards.lean) ties it to the program's text. -/
def laid_limbeck_prim_takes {H : Type} : DataW H := .agg [.lit (.int .i64 0), .lit (.int .i64 1), .lit (.int .i64 1), .lit (.int .i64 1), .lit (.int .i64 1), .lit (.int .i64 3), .lit (.int .i64 1), .lit (.int .i64 1)]

/-- 'limbecklaw32.PrimTells': WHATEVER THE INPUT: true; the input reads as it did. -/
def primTellsSpec : ChangeSpec := { name := "primTells", fn := fun _ => fun
  | [d1, d2, d3] => { results := [.lit (.bool true)], args := [d1, d2, d3] }
  | _ => none }
def primTellsRow : OpenClaim := { program := "ytophddbbeechkaadoor", sum := "14a27fa1dae4620f7147f688df0c37752fefe555fe2542dcdd29a2bfe28658cf", func := "limbeck/limbecklaw32.PrimTells", spec := "primTells", recurses := true, named := ["limbeck/prim.takes"], loops := true, apart := false, laid := [("limbeck/prim.takes", laid_limbeck_prim_takes)] }
def PrimTellsSaid : Prop := primTellsRow.holds Tryd.pinned (OpenSpec.ofChange primTellsSpec)

/-- ITS FALSE NEIGHBOUR: 'it returns false'. Refute it at one input. -/
def primTellsWrong : ChangeSpec := { name := "primTells", fn := fun _ => fun
  | [d1, d2, d3] => { results := [.lit (.bool false)], args := [d1, d2, d3] }
  | _ => none }
def PrimTellsWrongFalsely : Prop := primTellsRow.holds Tryd.pinned (OpenSpec.ofChange primTellsWrong)

/-- 'limbecklaw32.PrimMakes': WHATEVER THE INPUT: true; the input reads as it did. -/
def primMakesSpec : ChangeSpec := { name := "primMakes", fn := fun _ => fun
  | [d1, d2, d3] => { results := [.lit (.bool true)], args := [d1, d2, d3] }
  | _ => none }
def primMakesRow : OpenClaim := { program := "ytophddbbeechkaadoor", sum := "14a27fa1dae4620f7147f688df0c37752fefe555fe2542dcdd29a2bfe28658cf", func := "limbeck/limbecklaw32.PrimMakes", spec := "primMakes", recurses := true, named := ["limbeck/prim.takes"], apart := false, laid := [("limbeck/prim.takes", laid_limbeck_prim_takes)] }
def PrimMakesSaid : Prop := primMakesRow.holds Tryd.pinned (OpenSpec.ofChange primMakesSpec)

/-- ITS FALSE NEIGHBOUR: 'it returns false'. Refute it at one input. -/
def primMakesWrong : ChangeSpec := { name := "primMakes", fn := fun _ => fun
  | [d1, d2, d3] => { results := [.lit (.bool false)], args := [d1, d2, d3] }
  | _ => none }
def PrimMakesWrongFalsely : Prop := primMakesRow.holds Tryd.pinned (OpenSpec.ofChange primMakesWrong)

/-- 'limbecklaw32.PrimOrder': WHATEVER THE INPUT: true; the input reads as it did. -/
def primOrderSpec : ChangeSpec := { name := "primOrder", fn := fun _ => fun
  | [d1, d2, d3] => { results := [.lit (.bool true)], args := [d1, d2, d3] }
  | _ => none }
def primOrderRow : OpenClaim := { program := "ytophddbbeechkaadoor", sum := "14a27fa1dae4620f7147f688df0c37752fefe555fe2542dcdd29a2bfe28658cf", func := "limbeck/limbecklaw32.PrimOrder", spec := "primOrder", recurses := true, named := ["limbeck/prim.takes"], apart := false, laid := [("limbeck/prim.takes", laid_limbeck_prim_takes)] }
def PrimOrderSaid : Prop := primOrderRow.holds Tryd.pinned (OpenSpec.ofChange primOrderSpec)

/-- ITS FALSE NEIGHBOUR: 'it returns false'. Refute it at one input. -/
def primOrderWrong : ChangeSpec := { name := "primOrder", fn := fun _ => fun
  | [d1, d2, d3] => { results := [.lit (.bool false)], args := [d1, d2, d3] }
  | _ => none }
def PrimOrderWrongFalsely : Prop := primOrderRow.holds Tryd.pinned (OpenSpec.ofChange primOrderWrong)

/-- 'limbecklaw32.PrimDivides': WHATEVER THE INPUT: true; the input reads as it did. -/
def primDividesSpec : ChangeSpec := { name := "primDivides", fn := fun _ => fun
  | [d1, d2] => { results := [.lit (.bool true)], args := [d1, d2] }
  | _ => none }
def primDividesRow : OpenClaim := { program := "ytophddbbeechkaadoor", sum := "14a27fa1dae4620f7147f688df0c37752fefe555fe2542dcdd29a2bfe28658cf", func := "limbeck/limbecklaw32.PrimDivides", spec := "primDivides", named := ["limbeck/prim.takes"], apart := false, laid := [("limbeck/prim.takes", laid_limbeck_prim_takes)] }
def PrimDividesSaid : Prop := primDividesRow.holds Tryd.pinned (OpenSpec.ofChange primDividesSpec)

/-- ITS FALSE NEIGHBOUR: 'it returns false'. Refute it at one input. -/
def primDividesWrong : ChangeSpec := { name := "primDivides", fn := fun _ => fun
  | [d1, d2] => { results := [.lit (.bool false)], args := [d1, d2] }
  | _ => none }
def PrimDividesWrongFalsely : Prop := primDividesRow.holds Tryd.pinned (OpenSpec.ofChange primDividesWrong)

/-- 'limbecklaw32.PrimTexts': WHATEVER THE INPUT: true; the input reads as it did. -/
def primTextsSpec : ChangeSpec := { name := "primTexts", fn := fun _ => fun
  | [d1, d2, d3] => { results := [.lit (.bool true)], args := [d1, d2, d3] }
  | _ => none }
def primTextsRow : OpenClaim := { program := "ytophddbbeechkaadoor", sum := "14a27fa1dae4620f7147f688df0c37752fefe555fe2542dcdd29a2bfe28658cf", func := "limbeck/limbecklaw32.PrimTexts", spec := "primTexts", recurses := true, named := ["limbeck/prim.takes"], apart := false, laid := [("limbeck/prim.takes", laid_limbeck_prim_takes)] }
def PrimTextsSaid : Prop := primTextsRow.holds Tryd.pinned (OpenSpec.ofChange primTextsSpec)

/-- ITS FALSE NEIGHBOUR: 'it returns false'. Refute it at one input. -/
def primTextsWrong : ChangeSpec := { name := "primTexts", fn := fun _ => fun
  | [d1, d2, d3] => { results := [.lit (.bool false)], args := [d1, d2, d3] }
  | _ => none }
def PrimTextsWrongFalsely : Prop := primTextsRow.holds Tryd.pinned (OpenSpec.ofChange primTextsWrong)

/- THE SECOND FORM. 'bulk': how many values and letters a reading holds, each counted each time it is reached (what is shared counts as often as it is met; a slice's spare places count too). A statement '..UptoSaid' is the law's where the arguments, and the package variables that the reading takes, are together of bulk at most 1048576: NARROWER than '..Said'. Prove '..Said' where nothing that the law and all that it calls make is longer than what came in: it says more and counts as full. Else prove '..UptoSaid'. A law counts once. -/
mutual
def uptoBulk {H : Type} : DataW H → Nat
  | .lit (.string bytes) => bytes.length + 1
  | .lit _ => 1
  | .nil => 1
  | .ptr d => uptoBulk d + 1
  | .slice elems spare => uptoBulkAll elems + uptoBulkAll spare + 1
  | .agg parts => uptoBulkAll parts + 1
  | .iface _ d => uptoBulk d + 1
  | .map entries => uptoBulkEntries entries + 1
  | .held _ => 1
def uptoBulkAll {H : Type} : List (DataW H) → Nat
  | [] => 0
  | d :: r => uptoBulk d + uptoBulkAll r
def uptoBulkEntries {H : Type} : List (Lit × DataW H) → Nat
  | [] => 0
  | x :: r => uptoBulkEntry x + uptoBulkEntries r
def uptoBulkEntry {H : Type} : Lit × DataW H → Nat
  | (.string bytes, d) => bytes.length + uptoBulk d + 1
  | (_, d) => uptoBulk d + 1
 end
def uptoSmall : (H : Type) → List (DataW H) → Bool := fun _ ds => decide (uptoBulkAll ds ≤ 1048576)
def OpenSpec.upto (s : _root_.Go.ChangeSpec) : _root_.Go.OpenSpec := { _root_.Go.OpenSpec.ofChange s with cond := some uptoSmall }

/-- 'limbecklaw32.PrimTells', WHERE WHAT IT READS IS OF BULK AT MOST 1048576: true; the input reads as it did. -/
def primTellsUptoRow : OpenClaim := { program := "ytophddbbeechkaadoor", sum := "14a27fa1dae4620f7147f688df0c37752fefe555fe2542dcdd29a2bfe28658cf", func := "limbeck/limbecklaw32.PrimTells", spec := "primTells", recurses := true, named := ["limbeck/prim.takes"], loops := true, apart := false, laid := [("limbeck/prim.takes", laid_limbeck_prim_takes)], narrowed := true }
def PrimTellsUptoSaid : Prop := primTellsUptoRow.holds Tryd.pinned (OpenSpec.upto primTellsSpec)

/-- 'limbecklaw32.PrimMakes', WHERE WHAT IT READS IS OF BULK AT MOST 1048576: true; the input reads as it did. -/
def primMakesUptoRow : OpenClaim := { program := "ytophddbbeechkaadoor", sum := "14a27fa1dae4620f7147f688df0c37752fefe555fe2542dcdd29a2bfe28658cf", func := "limbeck/limbecklaw32.PrimMakes", spec := "primMakes", recurses := true, named := ["limbeck/prim.takes"], apart := false, laid := [("limbeck/prim.takes", laid_limbeck_prim_takes)], narrowed := true }
def PrimMakesUptoSaid : Prop := primMakesUptoRow.holds Tryd.pinned (OpenSpec.upto primMakesSpec)

/-- 'limbecklaw32.PrimOrder', WHERE WHAT IT READS IS OF BULK AT MOST 1048576: true; the input reads as it did. -/
def primOrderUptoRow : OpenClaim := { program := "ytophddbbeechkaadoor", sum := "14a27fa1dae4620f7147f688df0c37752fefe555fe2542dcdd29a2bfe28658cf", func := "limbeck/limbecklaw32.PrimOrder", spec := "primOrder", recurses := true, named := ["limbeck/prim.takes"], apart := false, laid := [("limbeck/prim.takes", laid_limbeck_prim_takes)], narrowed := true }
def PrimOrderUptoSaid : Prop := primOrderUptoRow.holds Tryd.pinned (OpenSpec.upto primOrderSpec)

/-- 'limbecklaw32.PrimDivides', WHERE WHAT IT READS IS OF BULK AT MOST 1048576: true; the input reads as it did. -/
def primDividesUptoRow : OpenClaim := { program := "ytophddbbeechkaadoor", sum := "14a27fa1dae4620f7147f688df0c37752fefe555fe2542dcdd29a2bfe28658cf", func := "limbeck/limbecklaw32.PrimDivides", spec := "primDivides", named := ["limbeck/prim.takes"], apart := false, laid := [("limbeck/prim.takes", laid_limbeck_prim_takes)], narrowed := true }
def PrimDividesUptoSaid : Prop := primDividesUptoRow.holds Tryd.pinned (OpenSpec.upto primDividesSpec)

/-- 'limbecklaw32.PrimTexts', WHERE WHAT IT READS IS OF BULK AT MOST 1048576: true; the input reads as it did. -/
def primTextsUptoRow : OpenClaim := { program := "ytophddbbeechkaadoor", sum := "14a27fa1dae4620f7147f688df0c37752fefe555fe2542dcdd29a2bfe28658cf", func := "limbeck/limbecklaw32.PrimTexts", spec := "primTexts", recurses := true, named := ["limbeck/prim.takes"], apart := false, laid := [("limbeck/prim.takes", laid_limbeck_prim_takes)], narrowed := true }
def PrimTextsUptoSaid : Prop := primTextsUptoRow.holds Tryd.pinned (OpenSpec.upto primTextsSpec)

end Rows
end Go.Proofs.YtophddbbeechkaaDoor

/-
  NARROWER THAN 'FOR EVERY INPUT', by the rows' own cells (each row's printed sentence says how): SitesTell: loops · SitesStay: loops · SitesNodes: loops · WeakTells: loops · WeakLess: loops · WeakTurned: loops · WeakOrder: loops.
  DERIVED. THE GIVEN ROWS OF THIS SEAT. 7 by the template 'for every input the law returns true; each argument reads behind the call as it read before'; 0 by the template 'total and deterministic' (their statements: YtlenfmnkbepoiaaTotals.lean).
  GIVEN WITH THE SEED: the statements are not yours to turn. If you find one false, say at which input.
  Laid BY PROGRAM, IN A SANDBOX (cutbox-rows.mjs): the forced cells as the released guide's own fill.sh prints them over the translation 3c6d66515faf3c7c… (all of the seat's roots in one cut). By AI agents, Wed Nov 11 2026. No macro, syntax, notation, axiom, sorry.
-/
import Derived.Test.YtlenfmnkbepoiaaChecked
import GoSem.Claim
import GoSem.ClaimJoined
import GoSem.ClaimMapViews
import Derived.JoinedTies
import Derived.KernelRfl
namespace Go.Proofs.Ytlenfmnkbepoiaa
/- THE CELL 'sum', in the pinned program and in every row, IS THE sha256 OF THE DUMP (.gsa) THAT YtlenfmnkbepoiaaProg.lean LOADS. Nothing in Lean hashes anything: it is a label: what it is worth is what the hold of that sum in a sandbox is worth. -/
noncomputable def Try.pinned : Pinned := { name := "ytlenfmnkbepoiaa", sum := "3c6d66515faf3c7ccb55822c76edcf82c9475d09797cc2c596435d32111f13ab", checked := Try.checked }
namespace Rows
def none {H : Type} : Left H := { results := [], args := [] }

/-- 'limbecklaw17.SitesTell': WHATEVER THE INPUT: true; the input reads as it did. -/
def sitesTellSpec : ChangeSpec := { name := "sitesTell", fn := fun _ => fun
  | [d1, d2, d3] => { results := [.lit (.bool true)], args := [d1, d2, d3] }
  | _ => none }
def sitesTellRow : OpenClaim := { program := "ytlenfmnkbepoiaa", sum := "3c6d66515faf3c7ccb55822c76edcf82c9475d09797cc2c596435d32111f13ab", func := "limbeck/limbecklaw17.SitesTell", spec := "sitesTell", unfollowed := true, recurses := true, loops := true, apart := false }
def SitesTellSaid : Prop := sitesTellRow.holds Try.pinned (OpenSpec.ofChange sitesTellSpec)

/-- ITS FALSE NEIGHBOUR: 'it returns false'. Refute it at one input. -/
def sitesTellWrong : ChangeSpec := { name := "sitesTell", fn := fun _ => fun
  | [d1, d2, d3] => { results := [.lit (.bool false)], args := [d1, d2, d3] }
  | _ => none }
def SitesTellWrongFalsely : Prop := sitesTellRow.holds Try.pinned (OpenSpec.ofChange sitesTellWrong)

/-- 'limbecklaw17.SitesStay': WHATEVER THE INPUT: true; the input reads as it did. -/
def sitesStaySpec : ChangeSpec := { name := "sitesStay", fn := fun _ => fun
  | [d1, d2, d3] => { results := [.lit (.bool true)], args := [d1, d2, d3] }
  | _ => none }
def sitesStayRow : OpenClaim := { program := "ytlenfmnkbepoiaa", sum := "3c6d66515faf3c7ccb55822c76edcf82c9475d09797cc2c596435d32111f13ab", func := "limbeck/limbecklaw17.SitesStay", spec := "sitesStay", unfollowed := true, recurses := true, loops := true, apart := false }
def SitesStaySaid : Prop := sitesStayRow.holds Try.pinned (OpenSpec.ofChange sitesStaySpec)

/-- ITS FALSE NEIGHBOUR: 'it returns false'. Refute it at one input. -/
def sitesStayWrong : ChangeSpec := { name := "sitesStay", fn := fun _ => fun
  | [d1, d2, d3] => { results := [.lit (.bool false)], args := [d1, d2, d3] }
  | _ => none }
def SitesStayWrongFalsely : Prop := sitesStayRow.holds Try.pinned (OpenSpec.ofChange sitesStayWrong)

/-- 'limbecklaw17.SitesNodes': WHATEVER THE INPUT: true; the input reads as it did. -/
def sitesNodesSpec : ChangeSpec := { name := "sitesNodes", fn := fun _ => fun
  | [d] => { results := [.lit (.bool true)], args := [d] }
  | _ => none }
def sitesNodesRow : OpenClaim := { program := "ytlenfmnkbepoiaa", sum := "3c6d66515faf3c7ccb55822c76edcf82c9475d09797cc2c596435d32111f13ab", func := "limbeck/limbecklaw17.SitesNodes", spec := "sitesNodes", unfollowed := true, recurses := true, loops := true, apart := false }
def SitesNodesSaid : Prop := sitesNodesRow.holds Try.pinned (OpenSpec.ofChange sitesNodesSpec)

/-- ITS FALSE NEIGHBOUR: 'it returns false'. Refute it at one input. -/
def sitesNodesWrong : ChangeSpec := { name := "sitesNodes", fn := fun _ => fun
  | [d] => { results := [.lit (.bool false)], args := [d] }
  | _ => none }
def SitesNodesWrongFalsely : Prop := sitesNodesRow.holds Try.pinned (OpenSpec.ofChange sitesNodesWrong)

/-- 'limbecklaw18.WeakTells': WHATEVER THE INPUT: true; the input reads as it did. -/
def weakTellsSpec : ChangeSpec := { name := "weakTells", fn := fun _ => fun
  | [d1, d2, d3, d4] => { results := [.lit (.bool true)], args := [d1, d2, d3, d4] }
  | _ => none }
def weakTellsRow : OpenClaim := { program := "ytlenfmnkbepoiaa", sum := "3c6d66515faf3c7ccb55822c76edcf82c9475d09797cc2c596435d32111f13ab", func := "limbeck/limbecklaw18.WeakTells", spec := "weakTells", unfollowed := true, recurses := true, loops := true, apart := false }
def WeakTellsSaid : Prop := weakTellsRow.holds Try.pinned (OpenSpec.ofChange weakTellsSpec)

/-- ITS FALSE NEIGHBOUR: 'it returns false'. Refute it at one input. -/
def weakTellsWrong : ChangeSpec := { name := "weakTells", fn := fun _ => fun
  | [d1, d2, d3, d4] => { results := [.lit (.bool false)], args := [d1, d2, d3, d4] }
  | _ => none }
def WeakTellsWrongFalsely : Prop := weakTellsRow.holds Try.pinned (OpenSpec.ofChange weakTellsWrong)

/-- 'limbecklaw18.WeakLess': WHATEVER THE INPUT: true; the input reads as it did. -/
def weakLessSpec : ChangeSpec := { name := "weakLess", fn := fun _ => fun
  | [d1, d2] => { results := [.lit (.bool true)], args := [d1, d2] }
  | _ => none }
def weakLessRow : OpenClaim := { program := "ytlenfmnkbepoiaa", sum := "3c6d66515faf3c7ccb55822c76edcf82c9475d09797cc2c596435d32111f13ab", func := "limbeck/limbecklaw18.WeakLess", spec := "weakLess", unfollowed := true, recurses := true, loops := true, apart := false }
def WeakLessSaid : Prop := weakLessRow.holds Try.pinned (OpenSpec.ofChange weakLessSpec)

/-- ITS FALSE NEIGHBOUR: 'it returns false'. Refute it at one input. -/
def weakLessWrong : ChangeSpec := { name := "weakLess", fn := fun _ => fun
  | [d1, d2] => { results := [.lit (.bool false)], args := [d1, d2] }
  | _ => none }
def WeakLessWrongFalsely : Prop := weakLessRow.holds Try.pinned (OpenSpec.ofChange weakLessWrong)

/-- 'limbecklaw18.WeakTurned': WHATEVER THE INPUT: true; the input reads as it did. -/
def weakTurnedSpec : ChangeSpec := { name := "weakTurned", fn := fun _ => fun
  | [d1, d2, d3] => { results := [.lit (.bool true)], args := [d1, d2, d3] }
  | _ => none }
def weakTurnedRow : OpenClaim := { program := "ytlenfmnkbepoiaa", sum := "3c6d66515faf3c7ccb55822c76edcf82c9475d09797cc2c596435d32111f13ab", func := "limbeck/limbecklaw18.WeakTurned", spec := "weakTurned", unfollowed := true, recurses := true, loops := true, apart := false }
def WeakTurnedSaid : Prop := weakTurnedRow.holds Try.pinned (OpenSpec.ofChange weakTurnedSpec)

/-- ITS FALSE NEIGHBOUR: 'it returns false'. Refute it at one input. -/
def weakTurnedWrong : ChangeSpec := { name := "weakTurned", fn := fun _ => fun
  | [d1, d2, d3] => { results := [.lit (.bool false)], args := [d1, d2, d3] }
  | _ => none }
def WeakTurnedWrongFalsely : Prop := weakTurnedRow.holds Try.pinned (OpenSpec.ofChange weakTurnedWrong)

/-- 'limbecklaw18.WeakOrder': WHATEVER THE INPUT: true; the input reads as it did. -/
def weakOrderSpec : ChangeSpec := { name := "weakOrder", fn := fun _ => fun
  | [d1, d2, d3] => { results := [.lit (.bool true)], args := [d1, d2, d3] }
  | _ => none }
def weakOrderRow : OpenClaim := { program := "ytlenfmnkbepoiaa", sum := "3c6d66515faf3c7ccb55822c76edcf82c9475d09797cc2c596435d32111f13ab", func := "limbeck/limbecklaw18.WeakOrder", spec := "weakOrder", unfollowed := true, recurses := true, loops := true, apart := false }
def WeakOrderSaid : Prop := weakOrderRow.holds Try.pinned (OpenSpec.ofChange weakOrderSpec)

/-- ITS FALSE NEIGHBOUR: 'it returns false'. Refute it at one input. -/
def weakOrderWrong : ChangeSpec := { name := "weakOrder", fn := fun _ => fun
  | [d1, d2, d3] => { results := [.lit (.bool false)], args := [d1, d2, d3] }
  | _ => none }
def WeakOrderWrongFalsely : Prop := weakOrderRow.holds Try.pinned (OpenSpec.ofChange weakOrderWrong)

/- THE SECOND FORM. 'bulk': how many values and letters a reading holds, each counted each time it is reached (what is shared counts as often as it is met; a slice's spare places count too). A statement '..UptoSaid' is the law's where the arguments, and the package variables that the reading takes, are together of bulk at most 1048576: NARROWER than '..Said'. Prove '..Said' where nothing that the law and all that it calls make is longer than what came in: it says more and counts as full. Else prove '..UptoSaid'. A law counts once. -/
mutual
def uptoBulk {H : Type} : DataW H → Nat
  | .lit (.string bytes) => bytes.length + 1
  | .lit _ => 1
  | .nil => 1
  | .ptr d => uptoBulk d + 1
  | .slice elems spare => uptoBulkAll elems + uptoBulkAll spare + 1
  | .agg parts => uptoBulkAll parts + 1
  | .iface _ d => uptoBulk d + 1
  | .map entries => uptoBulkEntries entries + 1
  | .held _ => 1
def uptoBulkAll {H : Type} : List (DataW H) → Nat
  | [] => 0
  | d :: r => uptoBulk d + uptoBulkAll r
def uptoBulkEntries {H : Type} : List (Lit × DataW H) → Nat
  | [] => 0
  | x :: r => uptoBulkEntry x + uptoBulkEntries r
def uptoBulkEntry {H : Type} : Lit × DataW H → Nat
  | (.string bytes, d) => bytes.length + uptoBulk d + 1
  | (_, d) => uptoBulk d + 1
 end
def uptoSmall : (H : Type) → List (DataW H) → Bool := fun _ ds => decide (uptoBulkAll ds ≤ 1048576)
def OpenSpec.upto (s : _root_.Go.ChangeSpec) : _root_.Go.OpenSpec := { _root_.Go.OpenSpec.ofChange s with cond := some uptoSmall }

/-- 'limbecklaw17.SitesTell', WHERE WHAT IT READS IS OF BULK AT MOST 1048576: true; the input reads as it did. -/
def sitesTellUptoRow : OpenClaim := { program := "ytlenfmnkbepoiaa", sum := "3c6d66515faf3c7ccb55822c76edcf82c9475d09797cc2c596435d32111f13ab", func := "limbeck/limbecklaw17.SitesTell", spec := "sitesTell", unfollowed := true, recurses := true, loops := true, apart := false, narrowed := true }
def SitesTellUptoSaid : Prop := sitesTellUptoRow.holds Try.pinned (OpenSpec.upto sitesTellSpec)

/-- 'limbecklaw17.SitesStay', WHERE WHAT IT READS IS OF BULK AT MOST 1048576: true; the input reads as it did. -/
def sitesStayUptoRow : OpenClaim := { program := "ytlenfmnkbepoiaa", sum := "3c6d66515faf3c7ccb55822c76edcf82c9475d09797cc2c596435d32111f13ab", func := "limbeck/limbecklaw17.SitesStay", spec := "sitesStay", unfollowed := true, recurses := true, loops := true, apart := false, narrowed := true }
def SitesStayUptoSaid : Prop := sitesStayUptoRow.holds Try.pinned (OpenSpec.upto sitesStaySpec)

/-- 'limbecklaw17.SitesNodes', WHERE WHAT IT READS IS OF BULK AT MOST 1048576: true; the input reads as it did. -/
def sitesNodesUptoRow : OpenClaim := { program := "ytlenfmnkbepoiaa", sum := "3c6d66515faf3c7ccb55822c76edcf82c9475d09797cc2c596435d32111f13ab", func := "limbeck/limbecklaw17.SitesNodes", spec := "sitesNodes", unfollowed := true, recurses := true, loops := true, apart := false, narrowed := true }
def SitesNodesUptoSaid : Prop := sitesNodesUptoRow.holds Try.pinned (OpenSpec.upto sitesNodesSpec)

/-- 'limbecklaw18.WeakTells', WHERE WHAT IT READS IS OF BULK AT MOST 1048576: true; the input reads as it did. -/
def weakTellsUptoRow : OpenClaim := { program := "ytlenfmnkbepoiaa", sum := "3c6d66515faf3c7ccb55822c76edcf82c9475d09797cc2c596435d32111f13ab", func := "limbeck/limbecklaw18.WeakTells", spec := "weakTells", unfollowed := true, recurses := true, loops := true, apart := false, narrowed := true }
def WeakTellsUptoSaid : Prop := weakTellsUptoRow.holds Try.pinned (OpenSpec.upto weakTellsSpec)

/-- 'limbecklaw18.WeakLess', WHERE WHAT IT READS IS OF BULK AT MOST 1048576: true; the input reads as it did. -/
def weakLessUptoRow : OpenClaim := { program := "ytlenfmnkbepoiaa", sum := "3c6d66515faf3c7ccb55822c76edcf82c9475d09797cc2c596435d32111f13ab", func := "limbeck/limbecklaw18.WeakLess", spec := "weakLess", unfollowed := true, recurses := true, loops := true, apart := false, narrowed := true }
def WeakLessUptoSaid : Prop := weakLessUptoRow.holds Try.pinned (OpenSpec.upto weakLessSpec)

/-- 'limbecklaw18.WeakTurned', WHERE WHAT IT READS IS OF BULK AT MOST 1048576: true; the input reads as it did. -/
def weakTurnedUptoRow : OpenClaim := { program := "ytlenfmnkbepoiaa", sum := "3c6d66515faf3c7ccb55822c76edcf82c9475d09797cc2c596435d32111f13ab", func := "limbeck/limbecklaw18.WeakTurned", spec := "weakTurned", unfollowed := true, recurses := true, loops := true, apart := false, narrowed := true }
def WeakTurnedUptoSaid : Prop := weakTurnedUptoRow.holds Try.pinned (OpenSpec.upto weakTurnedSpec)

/-- 'limbecklaw18.WeakOrder', WHERE WHAT IT READS IS OF BULK AT MOST 1048576: true; the input reads as it did. -/
def weakOrderUptoRow : OpenClaim := { program := "ytlenfmnkbepoiaa", sum := "3c6d66515faf3c7ccb55822c76edcf82c9475d09797cc2c596435d32111f13ab", func := "limbeck/limbecklaw18.WeakOrder", spec := "weakOrder", unfollowed := true, recurses := true, loops := true, apart := false, narrowed := true }
def WeakOrderUptoSaid : Prop := weakOrderUptoRow.holds Try.pinned (OpenSpec.upto weakOrderSpec)

end Rows
end Go.Proofs.Ytlenfmnkbepoiaa

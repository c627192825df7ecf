/-
  NARROWER THAN 'FOR EVERY INPUT', by the rows' own cells (each row's printed sentence says how): PrecTells: loops · PrecOrder: loops · PrecFuses: loops · PrecCuts: loops · SubstSeals: loops · SubstTwice: loops · SubstOpens: loops · PrecLists: loops · ConvKeeps: loops · ConvBack: loops · SubstPuts: loops.
  DERIVED. THE GIVEN ROWS OF THIS SEAT. 11 by the template 'for every input the law returns true; each argument reads behind the call as it read before'; 0 by the template 'total and deterministic' (their statements: YtnfnhjhnfdkinaaTotals.lean).
  GIVEN WITH THE SEED: the statements are not yours to turn. If you find one false, say at which input.
  Laid BY PROGRAM, IN A SANDBOX (cutbox-rows.mjs): the forced cells as the released guide's own fill.sh prints them over the translation dd3824b9a58028ee… (all of the seat's roots in one cut). By AI agents, Wed Nov 11 2026. No macro, syntax, notation, axiom, sorry.
-/
import Derived.Test.YtnfnhjhnfdkinaaChecked
import GoSem.Claim
import GoSem.ClaimJoined
import GoSem.ClaimMapViews
import Derived.JoinedTies
import Derived.KernelRfl
namespace Go.Proofs.Ytnfnhjhnfdkinaa
/- THE CELL 'sum', in the pinned program and in every row, IS THE sha256 OF THE DUMP (.gsa) THAT YtnfnhjhnfdkinaaProg.lean LOADS. Nothing in Lean hashes anything: it is a label: what it is worth is what the hold of that sum in a sandbox is worth. -/
noncomputable def Try.pinned : Pinned := { name := "ytnfnhjhnfdkinaa", sum := "dd3824b9a58028eea08076b61563dccef1a1ad331fbec9c6ae697a0442e6e9f8", checked := Try.checked }
namespace Rows
def none {H : Type} : Left H := { results := [], args := [] }

/-- 'limbecklaw08.PrecTells': WHATEVER THE INPUT: true; the input reads as it did. -/
def precTellsSpec : ChangeSpec := { name := "precTells", fn := fun _ => fun
  | [d1, d2, d3] => { results := [.lit (.bool true)], args := [d1, d2, d3] }
  | _ => none }
def precTellsRow : OpenClaim := { program := "ytnfnhjhnfdkinaa", sum := "dd3824b9a58028eea08076b61563dccef1a1ad331fbec9c6ae697a0442e6e9f8", func := "limbeck/limbecklaw08.PrecTells", spec := "precTells", unfollowed := true, recurses := true, loops := true, apart := false }
def PrecTellsSaid : Prop := precTellsRow.holds Try.pinned (OpenSpec.ofChange precTellsSpec)

/-- ITS FALSE NEIGHBOUR: 'it returns false'. Refute it at one input. -/
def precTellsWrong : ChangeSpec := { name := "precTells", fn := fun _ => fun
  | [d1, d2, d3] => { results := [.lit (.bool false)], args := [d1, d2, d3] }
  | _ => none }
def PrecTellsWrongFalsely : Prop := precTellsRow.holds Try.pinned (OpenSpec.ofChange precTellsWrong)

/-- 'limbecklaw08.PrecOrder': WHATEVER THE INPUT: true; the input reads as it did. -/
def precOrderSpec : ChangeSpec := { name := "precOrder", fn := fun _ => fun
  | [d1, d2, d3] => { results := [.lit (.bool true)], args := [d1, d2, d3] }
  | _ => none }
def precOrderRow : OpenClaim := { program := "ytnfnhjhnfdkinaa", sum := "dd3824b9a58028eea08076b61563dccef1a1ad331fbec9c6ae697a0442e6e9f8", func := "limbeck/limbecklaw08.PrecOrder", spec := "precOrder", unfollowed := true, recurses := true, loops := true, apart := false }
def PrecOrderSaid : Prop := precOrderRow.holds Try.pinned (OpenSpec.ofChange precOrderSpec)

/-- ITS FALSE NEIGHBOUR: 'it returns false'. Refute it at one input. -/
def precOrderWrong : ChangeSpec := { name := "precOrder", fn := fun _ => fun
  | [d1, d2, d3] => { results := [.lit (.bool false)], args := [d1, d2, d3] }
  | _ => none }
def PrecOrderWrongFalsely : Prop := precOrderRow.holds Try.pinned (OpenSpec.ofChange precOrderWrong)

/-- 'limbecklaw08.PrecFuses': WHATEVER THE INPUT: true; the input reads as it did. -/
def precFusesSpec : ChangeSpec := { name := "precFuses", fn := fun _ => fun
  | [d1, d2, d3] => { results := [.lit (.bool true)], args := [d1, d2, d3] }
  | _ => none }
def precFusesRow : OpenClaim := { program := "ytnfnhjhnfdkinaa", sum := "dd3824b9a58028eea08076b61563dccef1a1ad331fbec9c6ae697a0442e6e9f8", func := "limbeck/limbecklaw08.PrecFuses", spec := "precFuses", unfollowed := true, recurses := true, loops := true, apart := false }
def PrecFusesSaid : Prop := precFusesRow.holds Try.pinned (OpenSpec.ofChange precFusesSpec)

/-- ITS FALSE NEIGHBOUR: 'it returns false'. Refute it at one input. -/
def precFusesWrong : ChangeSpec := { name := "precFuses", fn := fun _ => fun
  | [d1, d2, d3] => { results := [.lit (.bool false)], args := [d1, d2, d3] }
  | _ => none }
def PrecFusesWrongFalsely : Prop := precFusesRow.holds Try.pinned (OpenSpec.ofChange precFusesWrong)

/-- 'limbecklaw08.PrecCuts': WHATEVER THE INPUT: true; the input reads as it did. -/
def precCutsSpec : ChangeSpec := { name := "precCuts", fn := fun _ => fun
  | [d1, d2, d3] => { results := [.lit (.bool true)], args := [d1, d2, d3] }
  | _ => none }
def precCutsRow : OpenClaim := { program := "ytnfnhjhnfdkinaa", sum := "dd3824b9a58028eea08076b61563dccef1a1ad331fbec9c6ae697a0442e6e9f8", func := "limbeck/limbecklaw08.PrecCuts", spec := "precCuts", unfollowed := true, recurses := true, loops := true, apart := false }
def PrecCutsSaid : Prop := precCutsRow.holds Try.pinned (OpenSpec.ofChange precCutsSpec)

/-- ITS FALSE NEIGHBOUR: 'it returns false'. Refute it at one input. -/
def precCutsWrong : ChangeSpec := { name := "precCuts", fn := fun _ => fun
  | [d1, d2, d3] => { results := [.lit (.bool false)], args := [d1, d2, d3] }
  | _ => none }
def PrecCutsWrongFalsely : Prop := precCutsRow.holds Try.pinned (OpenSpec.ofChange precCutsWrong)

/-- 'limbecklaw07.SubstSeals': WHATEVER THE INPUT: true; the input reads as it did. -/
def substSealsSpec : ChangeSpec := { name := "substSeals", fn := fun _ => fun
  | [d1, d2, d3, d4] => { results := [.lit (.bool true)], args := [d1, d2, d3, d4] }
  | _ => none }
def substSealsRow : OpenClaim := { program := "ytnfnhjhnfdkinaa", sum := "dd3824b9a58028eea08076b61563dccef1a1ad331fbec9c6ae697a0442e6e9f8", func := "limbeck/limbecklaw07.SubstSeals", spec := "substSeals", unfollowed := true, recurses := true, loops := true, apart := false }
def SubstSealsSaid : Prop := substSealsRow.holds Try.pinned (OpenSpec.ofChange substSealsSpec)

/-- ITS FALSE NEIGHBOUR: 'it returns false'. Refute it at one input. -/
def substSealsWrong : ChangeSpec := { name := "substSeals", fn := fun _ => fun
  | [d1, d2, d3, d4] => { results := [.lit (.bool false)], args := [d1, d2, d3, d4] }
  | _ => none }
def SubstSealsWrongFalsely : Prop := substSealsRow.holds Try.pinned (OpenSpec.ofChange substSealsWrong)

/-- 'limbecklaw07.SubstTwice': WHATEVER THE INPUT: true; the input reads as it did. -/
def substTwiceSpec : ChangeSpec := { name := "substTwice", fn := fun _ => fun
  | [d1, d2, d3] => { results := [.lit (.bool true)], args := [d1, d2, d3] }
  | _ => none }
def substTwiceRow : OpenClaim := { program := "ytnfnhjhnfdkinaa", sum := "dd3824b9a58028eea08076b61563dccef1a1ad331fbec9c6ae697a0442e6e9f8", func := "limbeck/limbecklaw07.SubstTwice", spec := "substTwice", unfollowed := true, recurses := true, loops := true, apart := false }
def SubstTwiceSaid : Prop := substTwiceRow.holds Try.pinned (OpenSpec.ofChange substTwiceSpec)

/-- ITS FALSE NEIGHBOUR: 'it returns false'. Refute it at one input. -/
def substTwiceWrong : ChangeSpec := { name := "substTwice", fn := fun _ => fun
  | [d1, d2, d3] => { results := [.lit (.bool false)], args := [d1, d2, d3] }
  | _ => none }
def SubstTwiceWrongFalsely : Prop := substTwiceRow.holds Try.pinned (OpenSpec.ofChange substTwiceWrong)

/-- 'limbecklaw07.SubstOpens': WHATEVER THE INPUT: true; the input reads as it did. -/
def substOpensSpec : ChangeSpec := { name := "substOpens", fn := fun _ => fun
  | [d1, d2, d3] => { results := [.lit (.bool true)], args := [d1, d2, d3] }
  | _ => none }
def substOpensRow : OpenClaim := { program := "ytnfnhjhnfdkinaa", sum := "dd3824b9a58028eea08076b61563dccef1a1ad331fbec9c6ae697a0442e6e9f8", func := "limbeck/limbecklaw07.SubstOpens", spec := "substOpens", unfollowed := true, recurses := true, loops := true, apart := false }
def SubstOpensSaid : Prop := substOpensRow.holds Try.pinned (OpenSpec.ofChange substOpensSpec)

/-- ITS FALSE NEIGHBOUR: 'it returns false'. Refute it at one input. -/
def substOpensWrong : ChangeSpec := { name := "substOpens", fn := fun _ => fun
  | [d1, d2, d3] => { results := [.lit (.bool false)], args := [d1, d2, d3] }
  | _ => none }
def SubstOpensWrongFalsely : Prop := substOpensRow.holds Try.pinned (OpenSpec.ofChange substOpensWrong)

/-- 'limbecklaw08.PrecLists': WHATEVER THE INPUT: true; the input reads as it did. -/
def precListsSpec : ChangeSpec := { name := "precLists", fn := fun _ => fun
  | [d1, d2] => { results := [.lit (.bool true)], args := [d1, d2] }
  | _ => none }
def precListsRow : OpenClaim := { program := "ytnfnhjhnfdkinaa", sum := "dd3824b9a58028eea08076b61563dccef1a1ad331fbec9c6ae697a0442e6e9f8", func := "limbeck/limbecklaw08.PrecLists", spec := "precLists", unfollowed := true, recurses := true, loops := true, apart := false }
def PrecListsSaid : Prop := precListsRow.holds Try.pinned (OpenSpec.ofChange precListsSpec)

/-- ITS FALSE NEIGHBOUR: 'it returns false'. Refute it at one input. -/
def precListsWrong : ChangeSpec := { name := "precLists", fn := fun _ => fun
  | [d1, d2] => { results := [.lit (.bool false)], args := [d1, d2] }
  | _ => none }
def PrecListsWrongFalsely : Prop := precListsRow.holds Try.pinned (OpenSpec.ofChange precListsWrong)

/-- 'limbecklaw31.ConvKeeps': WHATEVER THE INPUT: true; the input reads as it did. -/
def convKeepsSpec : ChangeSpec := { name := "convKeeps", fn := fun _ => fun
  | [d1, d2, d3, d4, d5] => { results := [.lit (.bool true)], args := [d1, d2, d3, d4, d5] }
  | _ => none }
def convKeepsRow : OpenClaim := { program := "ytnfnhjhnfdkinaa", sum := "dd3824b9a58028eea08076b61563dccef1a1ad331fbec9c6ae697a0442e6e9f8", func := "limbeck/limbecklaw31.ConvKeeps", spec := "convKeeps", unfollowed := true, recurses := true, loops := true, apart := false }
def ConvKeepsSaid : Prop := convKeepsRow.holds Try.pinned (OpenSpec.ofChange convKeepsSpec)

/-- ITS FALSE NEIGHBOUR: 'it returns false'. Refute it at one input. -/
def convKeepsWrong : ChangeSpec := { name := "convKeeps", fn := fun _ => fun
  | [d1, d2, d3, d4, d5] => { results := [.lit (.bool false)], args := [d1, d2, d3, d4, d5] }
  | _ => none }
def ConvKeepsWrongFalsely : Prop := convKeepsRow.holds Try.pinned (OpenSpec.ofChange convKeepsWrong)

/-- 'limbecklaw31.ConvBack': WHATEVER THE INPUT: true; the input reads as it did. -/
def convBackSpec : ChangeSpec := { name := "convBack", fn := fun _ => fun
  | [d1, d2, d3, d4, d5] => { results := [.lit (.bool true)], args := [d1, d2, d3, d4, d5] }
  | _ => none }
def convBackRow : OpenClaim := { program := "ytnfnhjhnfdkinaa", sum := "dd3824b9a58028eea08076b61563dccef1a1ad331fbec9c6ae697a0442e6e9f8", func := "limbeck/limbecklaw31.ConvBack", spec := "convBack", unfollowed := true, recurses := true, loops := true, apart := false }
def ConvBackSaid : Prop := convBackRow.holds Try.pinned (OpenSpec.ofChange convBackSpec)

/-- ITS FALSE NEIGHBOUR: 'it returns false'. Refute it at one input. -/
def convBackWrong : ChangeSpec := { name := "convBack", fn := fun _ => fun
  | [d1, d2, d3, d4, d5] => { results := [.lit (.bool false)], args := [d1, d2, d3, d4, d5] }
  | _ => none }
def ConvBackWrongFalsely : Prop := convBackRow.holds Try.pinned (OpenSpec.ofChange convBackWrong)

/-- 'limbecklaw07.SubstPuts': WHATEVER THE INPUT: true; the input reads as it did. -/
def substPutsSpec : ChangeSpec := { name := "substPuts", fn := fun _ => fun
  | [d1, d2, d3] => { results := [.lit (.bool true)], args := [d1, d2, d3] }
  | _ => none }
def substPutsRow : OpenClaim := { program := "ytnfnhjhnfdkinaa", sum := "dd3824b9a58028eea08076b61563dccef1a1ad331fbec9c6ae697a0442e6e9f8", func := "limbeck/limbecklaw07.SubstPuts", spec := "substPuts", unfollowed := true, recurses := true, loops := true, apart := false }
def SubstPutsSaid : Prop := substPutsRow.holds Try.pinned (OpenSpec.ofChange substPutsSpec)

/-- ITS FALSE NEIGHBOUR: 'it returns false'. Refute it at one input. -/
def substPutsWrong : ChangeSpec := { name := "substPuts", fn := fun _ => fun
  | [d1, d2, d3] => { results := [.lit (.bool false)], args := [d1, d2, d3] }
  | _ => none }
def SubstPutsWrongFalsely : Prop := substPutsRow.holds Try.pinned (OpenSpec.ofChange substPutsWrong)

/- THE SECOND FORM. 'bulk': how many values and letters a reading holds, each counted each time it is reached (what is shared counts as often as it is met; a slice's spare places count too). A statement '..UptoSaid' is the law's where the arguments, and the package variables that the reading takes, are together of bulk at most 1048576: NARROWER than '..Said'. Prove '..Said' where nothing that the law and all that it calls make is longer than what came in: it says more and counts as full. Else prove '..UptoSaid'. A law counts once. -/
mutual
def uptoBulk {H : Type} : DataW H → Nat
  | .lit (.string bytes) => bytes.length + 1
  | .lit _ => 1
  | .nil => 1
  | .ptr d => uptoBulk d + 1
  | .slice elems spare => uptoBulkAll elems + uptoBulkAll spare + 1
  | .agg parts => uptoBulkAll parts + 1
  | .iface _ d => uptoBulk d + 1
  | .map entries => uptoBulkEntries entries + 1
  | .held _ => 1
def uptoBulkAll {H : Type} : List (DataW H) → Nat
  | [] => 0
  | d :: r => uptoBulk d + uptoBulkAll r
def uptoBulkEntries {H : Type} : List (Lit × DataW H) → Nat
  | [] => 0
  | x :: r => uptoBulkEntry x + uptoBulkEntries r
def uptoBulkEntry {H : Type} : Lit × DataW H → Nat
  | (.string bytes, d) => bytes.length + uptoBulk d + 1
  | (_, d) => uptoBulk d + 1
 end
def uptoSmall : (H : Type) → List (DataW H) → Bool := fun _ ds => decide (uptoBulkAll ds ≤ 1048576)
def OpenSpec.upto (s : _root_.Go.ChangeSpec) : _root_.Go.OpenSpec := { _root_.Go.OpenSpec.ofChange s with cond := some uptoSmall }

/-- 'limbecklaw08.PrecTells', WHERE WHAT IT READS IS OF BULK AT MOST 1048576: true; the input reads as it did. -/
def precTellsUptoRow : OpenClaim := { program := "ytnfnhjhnfdkinaa", sum := "dd3824b9a58028eea08076b61563dccef1a1ad331fbec9c6ae697a0442e6e9f8", func := "limbeck/limbecklaw08.PrecTells", spec := "precTells", unfollowed := true, recurses := true, loops := true, apart := false, narrowed := true }
def PrecTellsUptoSaid : Prop := precTellsUptoRow.holds Try.pinned (OpenSpec.upto precTellsSpec)

/-- 'limbecklaw08.PrecOrder', WHERE WHAT IT READS IS OF BULK AT MOST 1048576: true; the input reads as it did. -/
def precOrderUptoRow : OpenClaim := { program := "ytnfnhjhnfdkinaa", sum := "dd3824b9a58028eea08076b61563dccef1a1ad331fbec9c6ae697a0442e6e9f8", func := "limbeck/limbecklaw08.PrecOrder", spec := "precOrder", unfollowed := true, recurses := true, loops := true, apart := false, narrowed := true }
def PrecOrderUptoSaid : Prop := precOrderUptoRow.holds Try.pinned (OpenSpec.upto precOrderSpec)

/-- 'limbecklaw08.PrecFuses', WHERE WHAT IT READS IS OF BULK AT MOST 1048576: true; the input reads as it did. -/
def precFusesUptoRow : OpenClaim := { program := "ytnfnhjhnfdkinaa", sum := "dd3824b9a58028eea08076b61563dccef1a1ad331fbec9c6ae697a0442e6e9f8", func := "limbeck/limbecklaw08.PrecFuses", spec := "precFuses", unfollowed := true, recurses := true, loops := true, apart := false, narrowed := true }
def PrecFusesUptoSaid : Prop := precFusesUptoRow.holds Try.pinned (OpenSpec.upto precFusesSpec)

/-- 'limbecklaw08.PrecCuts', WHERE WHAT IT READS IS OF BULK AT MOST 1048576: true; the input reads as it did. -/
def precCutsUptoRow : OpenClaim := { program := "ytnfnhjhnfdkinaa", sum := "dd3824b9a58028eea08076b61563dccef1a1ad331fbec9c6ae697a0442e6e9f8", func := "limbeck/limbecklaw08.PrecCuts", spec := "precCuts", unfollowed := true, recurses := true, loops := true, apart := false, narrowed := true }
def PrecCutsUptoSaid : Prop := precCutsUptoRow.holds Try.pinned (OpenSpec.upto precCutsSpec)

/-- 'limbecklaw07.SubstSeals', WHERE WHAT IT READS IS OF BULK AT MOST 1048576: true; the input reads as it did. -/
def substSealsUptoRow : OpenClaim := { program := "ytnfnhjhnfdkinaa", sum := "dd3824b9a58028eea08076b61563dccef1a1ad331fbec9c6ae697a0442e6e9f8", func := "limbeck/limbecklaw07.SubstSeals", spec := "substSeals", unfollowed := true, recurses := true, loops := true, apart := false, narrowed := true }
def SubstSealsUptoSaid : Prop := substSealsUptoRow.holds Try.pinned (OpenSpec.upto substSealsSpec)

/-- 'limbecklaw07.SubstTwice', WHERE WHAT IT READS IS OF BULK AT MOST 1048576: true; the input reads as it did. -/
def substTwiceUptoRow : OpenClaim := { program := "ytnfnhjhnfdkinaa", sum := "dd3824b9a58028eea08076b61563dccef1a1ad331fbec9c6ae697a0442e6e9f8", func := "limbeck/limbecklaw07.SubstTwice", spec := "substTwice", unfollowed := true, recurses := true, loops := true, apart := false, narrowed := true }
def SubstTwiceUptoSaid : Prop := substTwiceUptoRow.holds Try.pinned (OpenSpec.upto substTwiceSpec)

/-- 'limbecklaw07.SubstOpens', WHERE WHAT IT READS IS OF BULK AT MOST 1048576: true; the input reads as it did. -/
def substOpensUptoRow : OpenClaim := { program := "ytnfnhjhnfdkinaa", sum := "dd3824b9a58028eea08076b61563dccef1a1ad331fbec9c6ae697a0442e6e9f8", func := "limbeck/limbecklaw07.SubstOpens", spec := "substOpens", unfollowed := true, recurses := true, loops := true, apart := false, narrowed := true }
def SubstOpensUptoSaid : Prop := substOpensUptoRow.holds Try.pinned (OpenSpec.upto substOpensSpec)

/-- 'limbecklaw08.PrecLists', WHERE WHAT IT READS IS OF BULK AT MOST 1048576: true; the input reads as it did. -/
def precListsUptoRow : OpenClaim := { program := "ytnfnhjhnfdkinaa", sum := "dd3824b9a58028eea08076b61563dccef1a1ad331fbec9c6ae697a0442e6e9f8", func := "limbeck/limbecklaw08.PrecLists", spec := "precLists", unfollowed := true, recurses := true, loops := true, apart := false, narrowed := true }
def PrecListsUptoSaid : Prop := precListsUptoRow.holds Try.pinned (OpenSpec.upto precListsSpec)

/-- 'limbecklaw31.ConvKeeps', WHERE WHAT IT READS IS OF BULK AT MOST 1048576: true; the input reads as it did. -/
def convKeepsUptoRow : OpenClaim := { program := "ytnfnhjhnfdkinaa", sum := "dd3824b9a58028eea08076b61563dccef1a1ad331fbec9c6ae697a0442e6e9f8", func := "limbeck/limbecklaw31.ConvKeeps", spec := "convKeeps", unfollowed := true, recurses := true, loops := true, apart := false, narrowed := true }
def ConvKeepsUptoSaid : Prop := convKeepsUptoRow.holds Try.pinned (OpenSpec.upto convKeepsSpec)

/-- 'limbecklaw31.ConvBack', WHERE WHAT IT READS IS OF BULK AT MOST 1048576: true; the input reads as it did. -/
def convBackUptoRow : OpenClaim := { program := "ytnfnhjhnfdkinaa", sum := "dd3824b9a58028eea08076b61563dccef1a1ad331fbec9c6ae697a0442e6e9f8", func := "limbeck/limbecklaw31.ConvBack", spec := "convBack", unfollowed := true, recurses := true, loops := true, apart := false, narrowed := true }
def ConvBackUptoSaid : Prop := convBackUptoRow.holds Try.pinned (OpenSpec.upto convBackSpec)

/-- 'limbecklaw07.SubstPuts', WHERE WHAT IT READS IS OF BULK AT MOST 1048576: true; the input reads as it did. -/
def substPutsUptoRow : OpenClaim := { program := "ytnfnhjhnfdkinaa", sum := "dd3824b9a58028eea08076b61563dccef1a1ad331fbec9c6ae697a0442e6e9f8", func := "limbeck/limbecklaw07.SubstPuts", spec := "substPuts", unfollowed := true, recurses := true, loops := true, apart := false, narrowed := true }
def SubstPutsUptoSaid : Prop := substPutsUptoRow.holds Try.pinned (OpenSpec.upto substPutsSpec)

end Rows
end Go.Proofs.Ytnfnhjhnfdkinaa

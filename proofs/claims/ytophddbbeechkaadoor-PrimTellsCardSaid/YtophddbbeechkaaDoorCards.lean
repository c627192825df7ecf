/-
  DERIVED. GIVEN WITH THE SEED: THE CARDS: each row of YtophddbbeechkaaDoorRows.lean that lists a variable, with what it lists TIED to the program's text (the seventh form; the later family's looks); each row that meets fmt, with fmt's text TOLD by the authors' own Lean function (tested against real Go, not proved from fmt's source: count such statements apart). THE CARD IS WHAT COUNTS. Prove the row's statement (the work); the ties are given (YtophddbbeechkaaDoorTie.lean); close each card by the builder's one call (the guide's Derived/Test/ToyasCard.lean, 'card_holds'). Laid BY PROGRAM, IN A SANDBOX (cutbox-door.mjs). By AI agents, Wed Nov 11 2026. No macro, syntax, notation, axiom, sorry.
-/
import Derived.Test.YtophddbbeechkaaDoorRows
import GoSem.ClaimSeven
namespace Go.Proofs.YtophddbbeechkaaDoor
namespace Rows

/-- THE TIED CARD OF 'limbecklaw32.PrimTells'. -/
def primTellsCard : Claim7 := { stood := { row := primTellsRow, standIns := [], harness := (true, "8f4016b4f86b91095b60c57eda42d9c910613b954d0366a5d780e070e338411e"), looks := false }, kinds := [], alts := [], laidByText := true, laidKinds := [.data], laidTests := true, laidLooks := .later }
def PrimTellsCardSaid : Prop := Claim7.holds Tryd.pinned (.plain (OpenSpec.ofChange primTellsSpec)) primTellsCard

/-- THE TIED CARD OF 'limbecklaw32.PrimMakes'. -/
def primMakesCard : Claim7 := { stood := { row := primMakesRow, standIns := [], harness := (true, "8f4016b4f86b91095b60c57eda42d9c910613b954d0366a5d780e070e338411e"), looks := false }, kinds := [], alts := [], laidByText := true, laidKinds := [.data], laidTests := true, laidLooks := .later }
def PrimMakesCardSaid : Prop := Claim7.holds Tryd.pinned (.plain (OpenSpec.ofChange primMakesSpec)) primMakesCard

/-- THE TIED CARD OF 'limbecklaw32.PrimOrder'. -/
def primOrderCard : Claim7 := { stood := { row := primOrderRow, standIns := [], harness := (true, "8f4016b4f86b91095b60c57eda42d9c910613b954d0366a5d780e070e338411e"), looks := false }, kinds := [], alts := [], laidByText := true, laidKinds := [.data], laidTests := true, laidLooks := .later }
def PrimOrderCardSaid : Prop := Claim7.holds Tryd.pinned (.plain (OpenSpec.ofChange primOrderSpec)) primOrderCard

/-- THE TIED CARD OF 'limbecklaw32.PrimDivides'. -/
def primDividesCard : Claim7 := { stood := { row := primDividesRow, standIns := [], harness := (true, "8f4016b4f86b91095b60c57eda42d9c910613b954d0366a5d780e070e338411e"), looks := false }, kinds := [], alts := [], laidByText := true, laidKinds := [.data], laidTests := true, laidLooks := .later }
def PrimDividesCardSaid : Prop := Claim7.holds Tryd.pinned (.plain (OpenSpec.ofChange primDividesSpec)) primDividesCard

/-- THE TIED CARD OF 'limbecklaw32.PrimTexts'. -/
def primTextsCard : Claim7 := { stood := { row := primTextsRow, standIns := [], harness := (true, "8f4016b4f86b91095b60c57eda42d9c910613b954d0366a5d780e070e338411e"), looks := false }, kinds := [], alts := [], laidByText := true, laidKinds := [.data], laidTests := true, laidLooks := .later }
def PrimTextsCardSaid : Prop := Claim7.holds Tryd.pinned (.plain (OpenSpec.ofChange primTextsSpec)) primTextsCard

/-- THE SECOND FORM's CARD OF 'limbecklaw32.PrimTells'. -/
def primTellsUptoCard : Claim7 := { stood := { row := primTellsUptoRow, standIns := [], harness := (true, "8f4016b4f86b91095b60c57eda42d9c910613b954d0366a5d780e070e338411e"), looks := false }, kinds := [], alts := [], laidByText := true, laidKinds := [.data], laidTests := true, laidLooks := .later }
def PrimTellsUptoCardSaid : Prop := Claim7.holds Tryd.pinned (.plain (OpenSpec.upto primTellsSpec)) primTellsUptoCard

/-- THE SECOND FORM's CARD OF 'limbecklaw32.PrimMakes'. -/
def primMakesUptoCard : Claim7 := { stood := { row := primMakesUptoRow, standIns := [], harness := (true, "8f4016b4f86b91095b60c57eda42d9c910613b954d0366a5d780e070e338411e"), looks := false }, kinds := [], alts := [], laidByText := true, laidKinds := [.data], laidTests := true, laidLooks := .later }
def PrimMakesUptoCardSaid : Prop := Claim7.holds Tryd.pinned (.plain (OpenSpec.upto primMakesSpec)) primMakesUptoCard

/-- THE SECOND FORM's CARD OF 'limbecklaw32.PrimOrder'. -/
def primOrderUptoCard : Claim7 := { stood := { row := primOrderUptoRow, standIns := [], harness := (true, "8f4016b4f86b91095b60c57eda42d9c910613b954d0366a5d780e070e338411e"), looks := false }, kinds := [], alts := [], laidByText := true, laidKinds := [.data], laidTests := true, laidLooks := .later }
def PrimOrderUptoCardSaid : Prop := Claim7.holds Tryd.pinned (.plain (OpenSpec.upto primOrderSpec)) primOrderUptoCard

/-- THE SECOND FORM's CARD OF 'limbecklaw32.PrimDivides'. -/
def primDividesUptoCard : Claim7 := { stood := { row := primDividesUptoRow, standIns := [], harness := (true, "8f4016b4f86b91095b60c57eda42d9c910613b954d0366a5d780e070e338411e"), looks := false }, kinds := [], alts := [], laidByText := true, laidKinds := [.data], laidTests := true, laidLooks := .later }
def PrimDividesUptoCardSaid : Prop := Claim7.holds Tryd.pinned (.plain (OpenSpec.upto primDividesSpec)) primDividesUptoCard

/-- THE SECOND FORM's CARD OF 'limbecklaw32.PrimTexts'. -/
def primTextsUptoCard : Claim7 := { stood := { row := primTextsUptoRow, standIns := [], harness := (true, "8f4016b4f86b91095b60c57eda42d9c910613b954d0366a5d780e070e338411e"), looks := false }, kinds := [], alts := [], laidByText := true, laidKinds := [.data], laidTests := true, laidLooks := .later }
def PrimTextsUptoCardSaid : Prop := Claim7.holds Tryd.pinned (.plain (OpenSpec.upto primTextsSpec)) primTextsUptoCard
end Rows
end Go.Proofs.YtophddbbeechkaaDoor

/-
  NameLists: the pure statement that is left of the law, what is known of what it is given, and the walk that follows. No conditions but the reach of what is read.
-/
import Derived.Test.YtophddbbeechkaaPNameListsx5
import Derived.Test.YtophddbbeechkaaWRd
import Derived.KernelRfl
namespace Go.Proofs.Ytophddbbeechkaa.PNameLists
open Go.RowKit Go.Proofs.YtophddbbeechkaaW.PrintWords Go.Proofs.YtophddbbeechkaaW.PrintLast Go.Proofs.YtophddbbeechkaaW.PrintMore Go.Proofs.YtophddbbeechkaaW
set_option linter.unusedVariables false
/-- The one pure statement. -/
def limbecklaw01_NameLists.Pure : Prop := ∀ (x0 : List ByteArray) (x1 : ByteArray), (x0.length * 16 ≤ 140737488351232 ∧ ∀ y, y ∈ x0 → y.size ≤ 140737488351232) → x1.size ≤ 140737488351232 → ∃ k, limbecklaw01_NameLists.f k x0 x1 = some true
theorem limbecklaw01_NameLists.walk (P : limbecklaw01_NameLists.Pure) (x0 : List ByteArray) (A0 : Option Addr) (c0 : Nat) (x1 : ByteArray) (w : World) (hr0 : Kd.C Kd.string w A0 x0.length x0) (hc0 : x0.length ≤ c0) (o0 : (x0.length * 16 ≤ 140737488351232 ∧ ∀ y, y ∈ x0 → y.size ≤ 140737488351232)) (o1 : x1.size ≤ 140737488351232) :
    Calls Try.prog 4 #[.slice A0 x0.length c0, .string x1] w fun e w' => e = .returned (.bool true) ∧ Below w.heap.size w w' := by
  obtain ⟨k, h⟩ := P x0 x1 o0 o1
  refine (limbecklaw01_NameLists.calls k A0 c0 x0 x1 true w hr0 hc0 h).mono ?_
  rintro e w' ⟨rfl, hd⟩
  exact ⟨rfl, hd⟩
end Go.Proofs.Ytophddbbeechkaa.PNameLists

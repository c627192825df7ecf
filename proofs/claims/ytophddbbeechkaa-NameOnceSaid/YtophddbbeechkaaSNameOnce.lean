/-
  NameOnce: the pure statement that is left of the law, what is known of what it is given, and the walk that follows. No conditions but the reach of what is read.
-/
import Derived.Test.YtophddbbeechkaaPNameOncex3
import Derived.Test.YtophddbbeechkaaWRd
import Derived.KernelRfl
namespace Go.Proofs.Ytophddbbeechkaa.PNameOnce
open Go.RowKit Go.Proofs.YtophddbbeechkaaW.PrintWords Go.Proofs.YtophddbbeechkaaW.PrintLast Go.Proofs.YtophddbbeechkaaW.PrintMore Go.Proofs.YtophddbbeechkaaW
set_option linter.unusedVariables false
/-- The one pure statement. -/
def limbecklaw01_NameOnce.Pure : Prop := ∀ (x0 : List ByteArray) (x1 : Int), (x0.length * 16 ≤ 140737488351232 ∧ ∀ y, y ∈ x0 → y.size ≤ 140737488351232) → (Lit.int .u8 x1).wf = true → ∃ k, limbecklaw01_NameOnce.f k x0 x1 = some true
theorem limbecklaw01_NameOnce.walk (P : limbecklaw01_NameOnce.Pure) (x0 : List ByteArray) (A0 : Option Addr) (c0 : Nat) (x1 : Int) (w : World) (hr0 : Kd.C Kd.string w A0 x0.length x0) (hc0 : x0.length ≤ c0) (o0 : (x0.length * 16 ≤ 140737488351232 ∧ ∀ y, y ∈ x0 → y.size ≤ 140737488351232)) (o1 : (Lit.int .u8 x1).wf = true) :
    Calls Try.prog 5 #[.slice A0 x0.length c0, .int .u8 x1] w fun e w' => e = .returned (.bool true) ∧ Below w.heap.size w w' := by
  obtain ⟨k, h⟩ := P x0 x1 o0 o1
  refine (limbecklaw01_NameOnce.calls k A0 c0 x0 x1 true w hr0 hc0 h).mono ?_
  rintro e w' ⟨rfl, hd⟩
  exact ⟨rfl, hd⟩
end Go.Proofs.Ytophddbbeechkaa.PNameOnce

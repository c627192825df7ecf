/-
  PrecFuses: nothing is left to be shown of the pure statement: the walk holds it all.
-/
import Derived.Test.YtnfnhjhnfdkinaaSPrecFuses
namespace Go.Proofs.Ytnfnhjhnfdkinaa.Pure
theorem PrecFuses : Go.Proofs.Ytnfnhjhnfdkinaa.PPrecTells.limbecklaw08_PrecFuses.Pure := by
  unfold Go.Proofs.Ytnfnhjhnfdkinaa.PPrecTells.limbecklaw08_PrecFuses.Pure
  intros
  exact ⟨0, rfl⟩
end Go.Proofs.Ytnfnhjhnfdkinaa.Pure

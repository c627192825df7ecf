/-
  PrecLists: nothing is left to be shown of the pure statement: the walk holds it all.
-/
import Derived.Test.YtnfnhjhnfdkinaaSPrecLists
namespace Go.Proofs.Ytnfnhjhnfdkinaa.Pure
theorem PrecLists : Go.Proofs.Ytnfnhjhnfdkinaa.PPrecLists.limbecklaw08_PrecLists.Pure := by
  unfold Go.Proofs.Ytnfnhjhnfdkinaa.PPrecLists.limbecklaw08_PrecLists.Pure
  intros
  exact ⟨0, rfl⟩
end Go.Proofs.Ytnfnhjhnfdkinaa.Pure

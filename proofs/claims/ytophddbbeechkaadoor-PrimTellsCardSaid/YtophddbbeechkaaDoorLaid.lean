/-
  prim: the listed table: it lies so at the door's own end, and gives the walks their condition.
-/
import Derived.Test.YtophddbbeechkaaDoorRows
import Derived.Test.YtophddbbeechkaaDoorW1
import Derived.ProofKit
import Derived.LaidMore
import Derived.OpenShut
import Derived.Stop.Joined
namespace Go.Proofs.YtophddbbeechkaaDoor.Laid
open Go.ChangeShapes Go.WideShapes Go.ChangeAt Go.WideMaps Go.WideElems Go.RowKit Go.Proofs.YtophddbbeechkaaDoor.W1
abbrev laid : List (String × DataW Unit) := [("limbeck/prim.takes", Rows.laid_limbeck_prim_takes)]
theorem own : ownKnob Tryd.prog.godebug = none := by kernel_rfl
theorem gTakes : Tryd.prog.globalNamed "limbeck/prim.takes" = some 0 := by kernel_rfl
theorem tTakes : (Tryd.prog.globals[0]?).map (·.type) = some 53 := by kernel_rfl
theorem door_met (os : Os) (args : Array Value) : laidMetH Tryd.prog laid ((World.doorLaid Tryd.prog 400 os).forCall (fun _ _ => 0) ⟨#[], args, []⟩).memory :=
  laidMetH_of_parts3 (fuel := 8) (laidMet_of_run' 8 (by kernel_rfl) (by kernel_rfl)) (by kernel_rfl) (by kernel_rfl)
theorem of_laid {W : World} (h : laidMetH Tryd.prog laid W) : GW W := by
  rw [MakeChecks.laidMetH_plain _ _ _ (by kernel_rfl)] at h
  obtain ⟨ps, ⟨g0, t0, cs0, f0, p0, q0, hg0, ht0, hv0, hd0, _, _⟩, _, _⟩ := h
  obtain rfl := Option.some.inj (gTakes.symm.trans hg0)
  obtain rfl := Option.some.inj (tTakes.symm.trans ht0)
  obtain ⟨xs, m1, rfl, hx1, hlen, hn3, hel⟩ := DataW.trod_array Tryd.underlying53 hd0
  have c3 : Tryd.prog.cellsOf 3 = 1 := by kernel_rfl
  simp only [Prod.mk.injEq] at hx1
  have hm : xs.map (fun x => x.fst) = [.lit (.int .i64 0), .lit (.int .i64 1), .lit (.int .i64 1), .lit (.int .i64 1), .lit (.int .i64 1), .lit (.int .i64 3), .lit (.int .i64 1), .lit (.int .i64 1)] := (DataW.agg.inj hx1.1).symm
  have hcell : ∀ i : Nat, i < 8 → W.cell? ⟨0, i, none⟩ = some (.int .i64 (takesTab i)) := by
    intro i hi
    have hl : (xs.map (fun x => x.fst))[i]? = some (.lit (.int .i64 (takesTab i))) := by
      rw [hm]
      have : i = 0 ∨ i = 1 ∨ i = 2 ∨ i = 3 ∨ i = 4 ∨ i = 5 ∨ i = 6 ∨ i = 7 := by omega
      rcases this with rfl | rfl | rfl | rfl | rfl | rfl | rfl | rfl <;> rfl
    rw [List.getElem?_map] at hl
    obtain ⟨x, hx, hx'⟩ := Option.map_eq_some_iff.1 hl
    obtain ⟨k, e1, e2, _⟩ := DataW.trod_int Tryd.underlying3 ((hel i hi).trans hx)
    rw [e2] at hx'
    obtain rfl : k = takesTab i := by simpa using hx'
    rw [c3, Nat.mul_one] at e1
    have h0 : (List.take 1 (List.drop i cs0.toList))[0]? = some (.int .i64 (takesTab i)) := by rw [e1]; rfl
    rw [List.getElem?_take_of_lt (by decide), List.getElem?_drop, Nat.add_zero] at h0
    have hv := World.var?_cell hg0 hv0 i
    rw [hv]
    simpa using h0
  refine ⟨?_, hcell⟩
  exact World.block_lt_of_cell? W ⟨0, 0, none⟩ (hcell 0 (by decide))
end Go.Proofs.YtophddbbeechkaaDoor.Laid

/-
  env: one slot as a list of its own.
-/
import Derived.Test.YtalmhbiedkjpmaaE12
namespace Go.Proofs.Ytalmhbiedkjpmaa.PEnvPlays
open Go.RowKit Go.Proofs.YtalmhbiedkjpmaaW.Mine Go.Proofs.YtalmhbiedkjpmaaW.PrintWords Go.Proofs.YtalmhbiedkjpmaaW.PrintLast Go.Proofs.YtalmhbiedkjpmaaW.PrintMore
set_option linter.unusedVariables false
set_option linter.unusedSimpArgs false
abbrev scells (x : Sl) (A6 : Option Addr) (c6 : Nat) (A7 : Option Addr) (c7 : Nat) (A8 : Option Addr) (c8 : Nat) : Array Value := #[.string x.f0, .int .i64 x.f1.f0, .int .i64 x.f1.f1, .int .i64 x.f1.f2, .bool x.f1.f3, .string x.f1.f4, .string x.f1.f5.f0, .int .i64 x.f1.f5.f1, .slice A6 x.f1.f6.length c6, .slice A7 x.f1.f7.length c7, .slice A8 x.f1.f8.length c8]
theorem one_slot {w : World} (x : Sl) {A6 A7 A8 : Option Addr} {c6 c7 c8 : Nat} (hx : RV w x.f1 A6 c6 A7 c7 A8 c8) :
    kSl.C (w.alloc (.cells (scells x A6 c6 A7 c7 A8 c8) 54)) (some ⟨w.heap.size, 0, none⟩) [x].length [x] := by
  have hr := hx.below (below_alloc1 w (.cells (scells x A6 c6 A7 c7 A8 c8) 54))
  have hk := blk_new w (.cells (scells x A6 c6 A7 c7 A8 c8) 54)
  refine ⟨rfl, by simp, fun _ => ⟨_, rfl, fun j p hj => ?_⟩⟩
  obtain ⟨hj1, hj2⟩ := List.getElem?_eq_some_iff.1 hj
  obtain rfl : j = 0 := by simpa using hj1
  obtain rfl : x = p := by simpa using hj2
  refine ⟨_, ?_, k54_mk _ x hr.1 hr.2.1 hr.2.2.1 hr.2.2.2.1 hr.2.2.2.2.1 hr.2.2.2.2.2, fun i u hu => ?_⟩
  · kernel_rfl
  · have e : (⟨w.heap.size, 0, none⟩ : Addr).add (0 * kSl.sz + i) = ⟨w.heap.size, i, none⟩ := by
      simp [Addr.add]
      intro h
      exact h.symm
    rw [e]
    exact (blk_cell hk i).trans (by rw [← hu, List.getElem?_toArray])
end Go.Proofs.Ytalmhbiedkjpmaa.PEnvPlays

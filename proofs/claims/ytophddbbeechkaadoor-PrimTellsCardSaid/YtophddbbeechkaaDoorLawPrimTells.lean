/-
  PrimTells: the row: for every input that can be read as data the law returns true, and what it was given reads as before. No conditions.
-/
import Derived.Test.YtophddbbeechkaaDoorRows
import Derived.Test.YtophddbbeechkaaDoorCards
import Derived.Test.YtophddbbeechkaaDoorTie
import Derived.Test.YtophddbbeechkaaDoorLaid
import Derived.Test.YtophddbbeechkaaDoorPurePrimTells
import Derived.WalkKit
import Derived.ProofKit
import Derived.OpenShut
import Derived.ShutString
import Derived.ChangeOld
import Derived.Below
import Derived.SizedLaws
import Derived.LaidMore
import Derived.SevenTiedAt
namespace Go.Proofs.YtophddbbeechkaaDoor.primTells
open Go.Proofs.YtophddbbeechkaaDoor.Laid Go.Proofs.YtophddbbeechkaaDoor.W1
open Go.ChangeShapes Go.WideShapes Go.ChangeAt Go.RowKit Go.Proofs.YtophddbbeechkaaDoor.PPrimTells Go.Proofs.YtophddbbeechkaaDoorW Go.Proofs.YtophddbbeechkaaDoorW.PrintWords
open Go.ChangeMaps (open_string shut_string)
set_option linter.unusedVariables false
theorem laidOut' : laidOutB Tryd.prog = true := by kernel_rfl
set_option maxRecDepth 100000 in
theorem lifted (os : Os) (started : os.Started) (H : Type) (enc : TypeId × Value → H) :
    ReturnsInHanded {} Tryd.checked os 3 .any (fun w args => (Rows.primTellsSpec.pre enc Tryd.prog Tryd.f3 [] false w args ∧ laidMetH Tryd.prog laid w) ∧ sizedMet enc Tryd.prog Tryd.f3 (OpenSpec.ofChange Rows.primTellsSpec) false w args)
      (Rows.primTellsSpec.post enc Tryd.prog Tryd.f3 false true false false) := by
  refine returnsInHanded_of_change_and (C := Tryd.checked) (X := fun w _ => laidMetH Tryd.prog laid w) (fun _ _ _ hh h => h.of_heap hh) own started (by kernel_rfl) Tryd.func3
    (ChangeSpec.witness_shaped (enc := enc) (C := Tryd.checked) (os := os) (X := fun w _ => laidMetH Tryd.prog laid w) false (World.doorLaid Tryd.prog 400 os) #[.int .i64 0, .agg #[.int .i64 0, .int .i64 0, .int .i64 0, .bool false, .string ByteArray.empty, .string ByteArray.empty, .int .i64 0, .slice none 0 0, .slice none 0 0, .slice none 0 0], .agg #[.int .i64 0, .int .i64 0, .int .i64 0, .bool false, .string ByteArray.empty, .string ByteArray.empty, .int .i64 0, .slice none 0 0, .slice none 0 0, .slice none 0 0]] 8 rfl (World.shaped_of_RefB (by kernel_rfl) (by kernel_rfl)) (by kernel_rfl) (by kernel_rfl) (by kernel_rfl) (door_met os _)) ?_
  intro W base args ds gs before hval0 hW hcnd hsz0 hL _
  have hsz : (DataW.weightsEach Tryd.prog (Tryd.f3.params.toList ++ Rows.primTellsSpec.plain.varTypes Tryd.prog) (ds ++ gs)).all (· ≤ reachBytes) = true := hsz0
  have hval : ∀ (j : Nat) t v, Tryd.f3.params[j]? = some t → args[j]? = some v → Value.okWide Tryd.prog W .any base t v := hval0
  have hW' := hW
  obtain ⟨p, q, hA0, hV, rfl, hfz, hnd⟩ := hW
  have hA : DataW.TrodAll enc Tryd.prog W 0 (fun _ => true) true Tryd.f3.params.toList args.toList ds p := hA0
  rw [Tryd.params3] at hA hval hsz
  obtain ⟨v0, vs0, d0, ds0, p0, q0, hargs, rfl, rfl, h0, r0⟩ := trodAll_cons hA
  obtain ⟨v1, vs1, d1, ds1, p1, q1, rfl, rfl, rfl, h1, r1⟩ := trodAll_cons r0
  obtain ⟨v2, vs2, d2, ds2, p2, q2, rfl, rfl, rfl, h2, r2⟩ := trodAll_cons r1
  obtain ⟨rfl, rfl, rfl⟩ := trodAll_nil r2
  obtain rfl : args = #[v0, v1, v2] := by cases args; simp_all
  obtain ⟨rfl, rfl⟩ := trodVars_none hV
  obtain ⟨a0, rfl, rfl, rfl, w0⟩ := open_int Tryd.underlying3 (hval 0 3 v0 rfl rfl) h0
  have k1 := h1
  have lt1 : ∀ x ∈ p1, x.block < W.heap.size := by obtain ⟨m, hm⟩ := k1; exact DataW.trod_lt m _ _ _ hm
  obtain ⟨x1, g1, o1⟩ := Rd.rd_arg rd28 hsz (j := 1) (t := 28) rfl rfl h1
  obtain ⟨A1_7, c1_7, A1_8, c1_8, A1_9, c1_9, e1, hc1_7, hr1_7, hc1_8, hr1_8, hc1_9, hr1_9⟩ := k28_open g1
  obtain rfl := Rd.arg_agg Tryd.underlying28 (hval 1 28 v1 rfl rfl) e1
  have k2 := h2
  have lt2 : ∀ x ∈ p2, x.block < W.heap.size := by obtain ⟨m, hm⟩ := k2; exact DataW.trod_lt m _ _ _ hm
  obtain ⟨x2, g2, o2⟩ := Rd.rd_arg rd28 hsz (j := 2) (t := 28) rfl rfl h2
  obtain ⟨A2_7, c2_7, A2_8, c2_8, A2_9, c2_9, e2, hc2_7, hr2_7, hc2_8, hr2_8, hc2_9, hr2_9⟩ := k28_open g2
  obtain rfl := Rd.arg_agg Tryd.underlying28 (hval 2 28 v2 rfl rfl) e2
  have hG : GW W := of_laid hL
  clear hA0 hval0 hsz0 hsz hL
  refine (limbecklaw32_PrimTells.walk Pure.PrimTells a0 x1 A1_7 c1_7 A1_8 c1_8 A1_9 c1_9 x2 A2_7 c2_7 A2_8 c2_8 A2_9 c2_9 W hr1_7 hc1_7 hr1_8 hc1_8 hr1_9 hc1_9 hr2_7 hc2_7 hr2_8 hc2_8 hr2_9 hc2_9 w0 o1 o2 hG).mono fun e W' ⟨he, bel⟩ => ?_
  subst he
  exact ⟨_, rfl, _, _, _, [], _, [], hW', trodAll_mk1 (shut_bool Tryd.underlying4 _), (trodAll_cons_mk (shut_int Tryd.underlying3 w0) (trodAll_cons_mk (Below.trod laidOut' (by kernel_rfl) (of_decide_eq_true (by kernel_rfl)) k1 bel lt1) (trodAll_cons_mk (Below.trod laidOut' (by kernel_rfl) (of_decide_eq_true (by kernel_rfl)) k2 bel lt2) trodAll_mk0))), rfl, bel.frame _, fun h => by cases h⟩
theorem holds : Rows.PrimTellsSaid :=
  OpenClaim.holds_of_wide 3 Tryd.f3 rfl rfl rfl rfl rfl rfl rfl ⟨rfl, rfl, rfl, rfl, rfl⟩ rfl rfl rfl rfl rfl (by kernel_rfl) Tryd.func3 (by kernel_rfl)
    (of_decide_eq_true (by kernel_rfl)) (by unfold Func.isWrapper; first | (rw [if_pos (by decide +kernel)]; kernel_rfl) | (rw [if_neg (by decide +kernel)]; exact ⟨rfl, rfl⟩))
    (fun os started H enc _ => lifted os started H enc)
theorem card_holds : Rows.PrimTellsCardSaid :=
  Claim7.holds_tied_plain_at .later [] [.data] true (true, "8f4016b4f86b91095b60c57eda42d9c910613b954d0366a5d780e070e338411e") false
    holds (fun _ h => by cases h) (by kernel_rfl) (fun _ h => by cases h) primTells_row_tie rfl ⟨rfl, rfl⟩ (by kernel_rfl) rfl
    (fun f fn hf hfn => by
      obtain rfl : f = 3 := Option.some.inj ((show Tryd.prog.funcNamed "limbeck/limbecklaw32.PrimTells" = some 3 by kernel_rfl).symm.trans hf) |>.symm
      obtain rfl : fn = Tryd.f3 := (Option.some.inj (Tryd.func3.symm.trans hfn)).symm
      exact ⟨by kernel_rfl, fun j t ht => by
        rw [Tryd.params3] at ht
        have hm : t ∈ [3, 28, 28] := by simpa using Array.mem_of_getElem? ht
        have hall : ([3, 28, 28].all fun u => !Tryd.prog.wantsStandIn u) = true := by kernel_rfl
        exact (show Tryd.prog.wantsStandIn t = false by simpa using List.all_eq_true.1 hall t hm)⟩)
    (by kernel_rfl)
end Go.Proofs.YtophddbbeechkaaDoor.primTells
namespace Go.Proofs.YtophddbbeechkaaDoor
/-- The tied card, under a short name, for the claim. -/
theorem primTells_card_holds : Rows.PrimTellsCardSaid := primTells.card_holds
#print axioms primTells_card_holds
end Go.Proofs.YtophddbbeechkaaDoor

/-
  SitesNodes: the row: for every input that can be read as data, of bulk at most 1048576, the law returns true, and what it was given reads as before. No conditions.
-/
import Derived.Test.YtlenfmnkbepoiaaRows
import Derived.Test.YtlenfmnkbepoiaazSitesStay28
import Derived.WalkKit
import Derived.ProofKit
import Derived.OpenShut
import Derived.ShutString
import Derived.ChangeOld
import Derived.Below
import Derived.SizedLaws
import Derived.JoinedCond
import Derived.Deep.CondSized
namespace Go.Proofs.Ytlenfmnkbepoiaa.sitesNodes
open Go.ChangeShapes Go.WideShapes Go.ChangeAt Go.RowKit Go.Proofs.Ytlenfmnkbepoiaa.PSitesTell Go.Proofs.YtlenfmnkbepoiaaW Go.Proofs.YtlenfmnkbepoiaaW.PrintWords
open Go.ChangeMaps (open_string shut_string)
set_option linter.unusedVariables false
theorem own : ownKnob Try.prog.godebug = none := by kernel_rfl
theorem laidOut : laidOutB Try.prog = true := by kernel_rfl
set_option maxRecDepth 100000 in
theorem lifted (os : Os) (started : os.Started) (H : Type) (enc : TypeId × Value → H) (F : Stop.Interp) :
    ReturnsInHanded {} Try.checked os 5 .any ((Rows.OpenSpec.upto Rows.sitesNodesSpec).pre6 enc Try.prog Try.f5 Rows.sitesNodesUptoRow.domain false) (((Rows.OpenSpec.upto Rows.sitesNodesSpec).at F).post enc Try.prog Try.f5 false true false false) := by
  refine returnsInHanded_of_cond_sized (C := Try.checked) (s := (Rows.OpenSpec.upto Rows.sitesNodesSpec)) (k := Rows.uptoSmall) rfl own started (by kernel_rfl) Try.func5
    (OpenSpec.witness (enc := enc) (C := Try.checked) (s := (Rows.OpenSpec.upto Rows.sitesNodesSpec)) (k := Rows.uptoSmall) rfl false ⟨#[], #[.agg #[.string ByteArray.empty, .slice none 0 0, .slice none 0 0, .int .i64 0, .int .i64 0, .string ByteArray.empty, .slice none 0 0, .slice none 0 0, .int .i64 0, .int .i64 0, .string ByteArray.empty, .bool false, .slice none 0 0, .slice none 0 0, .slice none 0 0]], []⟩ 8 (by kernel_rfl) (by kernel_rfl) (by kernel_rfl)
      (x := ([.agg [.agg [.lit (.string []), .nil, .nil, .agg [.lit (.int .i64 0), .lit (.int .i64 0), .lit (.string []), .nil, .nil]], .agg [.lit (.int .i64 0), .lit (.int .i64 0), .lit (.string []), .lit (.bool false), .nil, .nil, .nil]]], [], [])) (by kernel_rfl) rfl (by kernel_rfl)) ?_
  intro W base args ds gs before hval0 hW hcnd hk hsz0 _
  have hbulk : Rows.uptoBulkAll (ds ++ gs) ≤ 1048576 := of_decide_eq_true hk
  clear hk
  have hsz : (DataW.weightsEach Try.prog (Try.f5.params.toList ++ Rows.sitesNodesSpec.plain.varTypes Try.prog) (ds ++ gs)).all (· ≤ reachBytes) = true := hsz0
  have hval : ∀ (j : Nat) t v, Try.f5.params[j]? = some t → args[j]? = some v → Value.okWide Try.prog W .any base t v := hval0
  have hW' := hW
  obtain ⟨p, q, hA0, hV, rfl, hfz, hnd⟩ := hW
  have hA : DataW.TrodAll enc Try.prog W 0 (fun _ => true) true Try.f5.params.toList args.toList ds p := hA0
  rw [Try.params5] at hA hval hsz
  obtain ⟨v0, vs0, d0, ds0, p0, q0, hargs, rfl, rfl, h0, r0⟩ := trodAll_cons hA
  obtain ⟨rfl, rfl, rfl⟩ := trodAll_nil r0
  obtain rfl : args = #[v0] := by cases args; simp_all
  obtain ⟨rfl, rfl⟩ := trodVars_none hV
  have k0 := h0
  have lt0 : ∀ x ∈ p0, x.block < W.heap.size := by obtain ⟨m, hm⟩ := k0; exact DataW.trod_lt m _ _ _ hm
  obtain ⟨x0, g0, o0, m0⟩ := rb_arg rdB33 hsz hbulk (j := 0) (t := 33) rfl rfl h0
  obtain ⟨A0_1, c0_1, A0_2, c0_2, A0_6, c0_6, A0_7, c0_7, A0_12, c0_12, A0_13, c0_13, A0_14, c0_14, e0, hc0_1, hr0_1, hc0_2, hr0_2, hc0_6, hr0_6, hc0_7, hr0_7, hc0_12, hr0_12, hc0_13, hr0_13, hc0_14, hr0_14⟩ := k33_open g0
  obtain rfl := Rd.arg_agg Try.underlying33 (hval 0 33 v0 rfl rfl) e0
  clear hA0 hval0 hsz0 hsz
  refine (limbecklaw17_SitesNodes_walk x0 A0_1 c0_1 A0_2 c0_2 A0_6 c0_6 A0_7 c0_7 A0_12 c0_12 A0_13 c0_13 A0_14 c0_14 W hr0_1 hc0_1 hr0_2 hc0_2 hr0_6 hc0_6 hr0_7 hc0_7 hr0_12 hc0_12 hr0_13 hc0_13 hr0_14 hc0_14 o0 m0).mono fun e W' ⟨he, bel⟩ => ?_
  subst he
  exact ⟨_, rfl, show Rows.sitesNodesSpec.post enc Try.prog Try.f5 false true false false W _ _ W' from ⟨_, _, _, [], _, [], hW', trodAll_mk1 (shut_bool Try.underlying4 _), (trodAll_cons_mk (Below.trod laidOut (by kernel_rfl) (of_decide_eq_true (by kernel_rfl)) k0 bel lt0) trodAll_mk0), rfl, bel.frame _, fun h => by cases h⟩⟩
theorem over : Rows.sitesNodesUptoRow.holds Try.pinned (Rows.OpenSpec.upto Rows.sitesNodesSpec) :=
  OpenClaim.holds_of_cond 5 Try.f5 rfl rfl rfl rfl rfl rfl rfl ⟨rfl, rfl, rfl, rfl, rfl⟩ rfl rfl rfl rfl rfl (by kernel_rfl) Try.func5 (by kernel_rfl)
    (of_decide_eq_true (by kernel_rfl)) (by unfold Func.isWrapper; first | (rw [if_pos (by decide +kernel)]; kernel_rfl) | (rw [if_neg (by decide +kernel)]; exact ⟨rfl, rfl⟩))
    (fun os started H enc _ F => lifted os started H enc F)
theorem proved : Rows.SitesNodesUptoSaid := over
#print axioms proved
end Go.Proofs.Ytlenfmnkbepoiaa.sitesNodes
namespace Go.Proofs.Ytlenfmnkbepoiaa
/-- The row, under a short name, for the claim. -/
theorem sitesNodesUpto_holds : Rows.SitesNodesUptoSaid := sitesNodes.proved
end Go.Proofs.Ytlenfmnkbepoiaa

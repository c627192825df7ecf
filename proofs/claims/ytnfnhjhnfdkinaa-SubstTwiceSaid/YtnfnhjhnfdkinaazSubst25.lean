/-
  SubstTwice: the row: for every input that can be read as data the law returns true, and what it was given reads as before. No conditions.
-/
import Derived.Test.YtnfnhjhnfdkinaaRows
import Derived.Test.YtnfnhjhnfdkinaazSubst24
import Derived.WalkKit
import Derived.ProofKit
import Derived.OpenShut
import Derived.ShutString
import Derived.ChangeOld
import Derived.Below
import Derived.SizedLaws
namespace Go.Proofs.Ytnfnhjhnfdkinaa.substTwice
open Go.ChangeShapes Go.WideShapes Go.ChangeAt Go.RowKit Go.Proofs.Ytnfnhjhnfdkinaa.PSubstPuts Go.Proofs.YtnfnhjhnfdkinaaW Go.Proofs.YtnfnhjhnfdkinaaW.PrintWords
open Go.ChangeMaps (open_string shut_string)
set_option linter.unusedVariables false
theorem own : ownKnob Try.prog.godebug = none := by kernel_rfl
theorem laidOut : laidOutB Try.prog = true := by kernel_rfl
set_option maxRecDepth 100000 in
theorem lifted (os : Os) (started : os.Started) (H : Type) (enc : TypeId × Value → H) :
    ReturnsInHanded {} Try.checked os 8 .any (Rows.substTwiceSpec.pre6 enc Try.prog Try.f8 Rows.substTwiceRow.domain false) (Rows.substTwiceSpec.post enc Try.prog Try.f8 false true false false) := by
  refine returnsInHanded_of_change_sized (C := Try.checked) own started (by kernel_rfl) Try.func8
    (ChangeSpec.witness6 (enc := enc) (C := Try.checked) false ⟨#[], #[.agg #[.int .i64 0, .int .i64 0, .string ByteArray.empty, .slice none 0 0, .slice none 0 0], .slice none 0 0, .slice none 0 0], []⟩ 8 (by kernel_rfl) (by kernel_rfl) (by kernel_rfl) (by kernel_rfl)) ?_
  intro W base args ds gs before hval0 hW hcnd hsz0 _
  have hsz : (DataW.weightsEach Try.prog (Try.f8.params.toList ++ Rows.substTwiceSpec.plain.varTypes Try.prog) (ds ++ gs)).all (· ≤ reachBytes) = true := hsz0
  have hval : ∀ (j : Nat) t v, Try.f8.params[j]? = some t → args[j]? = some v → Value.okWide Try.prog W .any base t v := hval0
  have hW' := hW
  obtain ⟨p, q, hA0, hV, rfl, hfz, hnd⟩ := hW
  have hA : DataW.TrodAll enc Try.prog W 0 (fun _ => true) true Try.f8.params.toList args.toList ds p := hA0
  rw [Try.params8] at hA hval hsz
  obtain ⟨v0, vs0, d0, ds0, p0, q0, hargs, rfl, rfl, h0, r0⟩ := trodAll_cons hA
  obtain ⟨v1, vs1, d1, ds1, p1, q1, rfl, rfl, rfl, h1, r1⟩ := trodAll_cons r0
  obtain ⟨v2, vs2, d2, ds2, p2, q2, rfl, rfl, rfl, h2, r2⟩ := trodAll_cons r1
  obtain ⟨rfl, rfl, rfl⟩ := trodAll_nil r2
  obtain rfl : args = #[v0, v1, v2] := by cases args; simp_all
  obtain ⟨rfl, rfl⟩ := trodVars_none hV
  have k0 := h0
  have lt0 : ∀ x ∈ p0, x.block < W.heap.size := by obtain ⟨m, hm⟩ := k0; exact DataW.trod_lt m _ _ _ hm
  obtain ⟨x0, g0, o0⟩ := Rd.rd_arg rd25 hsz (j := 0) (t := 25) rfl rfl h0
  obtain ⟨A0_3, c0_3, A0_4, c0_4, e0, hc0_3, hr0_3, hc0_4, hr0_4⟩ := k25_open g0
  obtain rfl := Rd.arg_agg Try.underlying25 (hval 0 25 v0 rfl rfl) e0
  have k1 := h1
  have lt1 : ∀ x ∈ p1, x.block < W.heap.size := by obtain ⟨m, hm⟩ := k1; exact DataW.trod_lt m _ _ _ hm
  obtain ⟨x1, g1, o1⟩ := Rd.rd_arg (d := (Kd.slice 43 k43)) (fun f_ => (Rd.rd_slice (B := 96) Try.underlying35 (by kernel_rfl) (by kernel_rfl) f_ (fun m_ _ => (rd43 m_)))) hsz (j := 1) (t := 35) rfl rfl h1
  obtain ⟨A1, c1, rfl, hc1, hr1⟩ := Rd.arg_slice Try.underlying35 (hval 1 35 v1 rfl rfl) g1
  have k2 := h2
  have lt2 : ∀ x ∈ p2, x.block < W.heap.size := by obtain ⟨m, hm⟩ := k2; exact DataW.trod_lt m _ _ _ hm
  obtain ⟨x2, g2, o2⟩ := Rd.rd_arg (d := (Kd.slice 43 k43)) (fun f_ => (Rd.rd_slice (B := 96) Try.underlying35 (by kernel_rfl) (by kernel_rfl) f_ (fun m_ _ => (rd43 m_)))) hsz (j := 2) (t := 35) rfl rfl h2
  obtain ⟨A2, c2, rfl, hc2, hr2⟩ := Rd.arg_slice Try.underlying35 (hval 2 35 v2 rfl rfl) g2
  clear hA0 hval0 hsz0 hsz
  refine (limbecklaw07_SubstTwice_walk x0 A0_3 c0_3 A0_4 c0_4 x1 A1 c1 x2 A2 c2 W hr0_3 hc0_3 hr0_4 hc0_4 hr1 hc1 hr2 hc2 o0 o1 o2).mono fun e W' ⟨he, bel⟩ => ?_
  subst he
  exact ⟨_, rfl, _, _, _, [], _, [], hW', trodAll_mk1 (shut_bool Try.underlying4 _), (trodAll_cons_mk (Below.trod laidOut (by kernel_rfl) (of_decide_eq_true (by kernel_rfl)) k0 bel lt0) (trodAll_cons_mk (Below.trod laidOut (by kernel_rfl) (of_decide_eq_true (by kernel_rfl)) k1 bel lt1) (trodAll_cons_mk (Below.trod laidOut (by kernel_rfl) (of_decide_eq_true (by kernel_rfl)) k2 bel lt2) trodAll_mk0))), rfl, bel.frame _, fun h => by cases h⟩
theorem over : Rows.substTwiceRow.holds Try.pinned (OpenSpec.ofChange Rows.substTwiceSpec) :=
  OpenClaim.holds_of_wide 8 Try.f8 rfl rfl rfl rfl rfl rfl rfl ⟨rfl, rfl, rfl, rfl, rfl⟩ rfl rfl rfl rfl rfl (by kernel_rfl) Try.func8 (by kernel_rfl)
    (of_decide_eq_true (by kernel_rfl)) (by unfold Func.isWrapper; first | (rw [if_pos (by decide +kernel)]; kernel_rfl) | (rw [if_neg (by decide +kernel)]; exact ⟨rfl, rfl⟩))
    (fun os started H enc _ => lifted os started H enc)
theorem proved : Rows.SubstTwiceSaid := over
#print axioms proved
end Go.Proofs.Ytnfnhjhnfdkinaa.substTwice
namespace Go.Proofs.Ytnfnhjhnfdkinaa
/-- The row, under a short name, for the claim. -/
theorem substTwice_holds : Rows.SubstTwiceSaid := substTwice.proved
end Go.Proofs.Ytnfnhjhnfdkinaa

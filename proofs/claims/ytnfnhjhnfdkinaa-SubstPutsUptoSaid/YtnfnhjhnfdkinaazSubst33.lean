/-
  SubstPuts: the row: for every input that can be read as data, of bulk at most 1048576, the law returns true, and what it was given reads as before. No conditions.
-/
import Derived.Test.YtnfnhjhnfdkinaaRows
import Derived.Test.YtnfnhjhnfdkinaazSubst32
import Derived.WalkKit
import Derived.ProofKit
import Derived.OpenShut
import Derived.ShutString
import Derived.ChangeOld
import Derived.Below
import Derived.SizedLaws
import Derived.JoinedCond
import Derived.Deep.CondSized
namespace Go.Proofs.Ytnfnhjhnfdkinaa.substPuts
open Go.ChangeShapes Go.WideShapes Go.ChangeAt Go.RowKit Go.Proofs.Ytnfnhjhnfdkinaa.PSubstPuts Go.Proofs.YtnfnhjhnfdkinaaW Go.Proofs.YtnfnhjhnfdkinaaW.PrintWords
open Go.ChangeMaps (open_string shut_string)
set_option linter.unusedVariables false
theorem own : ownKnob Try.prog.godebug = none := by kernel_rfl
theorem laidOut : laidOutB Try.prog = true := by kernel_rfl
set_option maxRecDepth 100000 in
theorem lifted (os : Os) (started : os.Started) (H : Type) (enc : TypeId × Value → H) (F : Stop.Interp) :
    ReturnsInHanded {} Try.checked os 13 .any ((Rows.OpenSpec.upto Rows.substPutsSpec).pre6 enc Try.prog Try.f13 Rows.substPutsUptoRow.domain false) (((Rows.OpenSpec.upto Rows.substPutsSpec).at F).post enc Try.prog Try.f13 false true false false) := by
  refine returnsInHanded_of_cond_sized (C := Try.checked) (s := (Rows.OpenSpec.upto Rows.substPutsSpec)) (k := Rows.uptoSmall) rfl own started (by kernel_rfl) Try.func13
    (OpenSpec.witness (enc := enc) (C := Try.checked) (s := (Rows.OpenSpec.upto Rows.substPutsSpec)) (k := Rows.uptoSmall) rfl false ⟨#[], #[.agg #[.int .i64 0, .int .i64 0, .string ByteArray.empty, .slice none 0 0, .slice none 0 0], .slice none 0 0, .slice none 0 0], []⟩ 8 (by kernel_rfl) (by kernel_rfl) (by kernel_rfl)
      (x := ([.agg [.lit (.int .i64 0), .lit (.int .i64 0), .lit (.string []), .nil, .nil], .nil, .nil], [], [])) (by kernel_rfl) rfl (by kernel_rfl)) ?_
  intro W base args ds gs before hval0 hW hcnd hk hsz0 _
  have hbulk : Rows.uptoBulkAll (ds ++ gs) ≤ 1048576 := of_decide_eq_true hk
  clear hk
  have hsz : (DataW.weightsEach Try.prog (Try.f13.params.toList ++ Rows.substPutsSpec.plain.varTypes Try.prog) (ds ++ gs)).all (· ≤ reachBytes) = true := hsz0
  have hval : ∀ (j : Nat) t v, Try.f13.params[j]? = some t → args[j]? = some v → Value.okWide Try.prog W .any base t v := hval0
  have hW' := hW
  obtain ⟨p, q, hA0, hV, rfl, hfz, hnd⟩ := hW
  have hA : DataW.TrodAll enc Try.prog W 0 (fun _ => true) true Try.f13.params.toList args.toList ds p := hA0
  rw [Try.params13] at hA hval hsz
  obtain ⟨v0, vs0, d0, ds0, p0, q0, hargs, rfl, rfl, h0, r0⟩ := trodAll_cons hA
  obtain ⟨v1, vs1, d1, ds1, p1, q1, rfl, rfl, rfl, h1, r1⟩ := trodAll_cons r0
  obtain ⟨v2, vs2, d2, ds2, p2, q2, rfl, rfl, rfl, h2, r2⟩ := trodAll_cons r1
  obtain ⟨rfl, rfl, rfl⟩ := trodAll_nil r2
  obtain rfl : args = #[v0, v1, v2] := by cases args; simp_all
  obtain ⟨rfl, rfl⟩ := trodVars_none hV
  have k0 := h0
  have lt0 : ∀ x ∈ p0, x.block < W.heap.size := by obtain ⟨m, hm⟩ := k0; exact DataW.trod_lt m _ _ _ hm
  obtain ⟨x0, g0, o0, m0⟩ := rb_arg rdB25 hsz hbulk (j := 0) (t := 25) rfl rfl h0
  obtain ⟨A0_3, c0_3, A0_4, c0_4, e0, hc0_3, hr0_3, hc0_4, hr0_4⟩ := k25_open g0
  obtain rfl := Rd.arg_agg Try.underlying25 (hval 0 25 v0 rfl rfl) e0
  have k1 := h1
  have lt1 : ∀ x ∈ p1, x.block < W.heap.size := by obtain ⟨m, hm⟩ := k1; exact DataW.trod_lt m _ _ _ hm
  obtain ⟨x1, g1, o1, m1⟩ := rb_arg (d := (Kd.slice 43 k43)) (fun f_ => (rb_slice (B := 96) Try.underlying35 (by kernel_rfl) (by kernel_rfl) f_ (fun m_ _ => (rdB43 m_)))) hsz hbulk (j := 1) (t := 35) rfl rfl h1
  obtain ⟨A1, c1, rfl, hc1, hr1⟩ := Rd.arg_slice Try.underlying35 (hval 1 35 v1 rfl rfl) g1
  have k2 := h2
  have lt2 : ∀ x ∈ p2, x.block < W.heap.size := by obtain ⟨m, hm⟩ := k2; exact DataW.trod_lt m _ _ _ hm
  obtain ⟨x2, g2, o2, m2⟩ := rb_arg (d := (Kd.slice 43 k43)) (fun f_ => (rb_slice (B := 96) Try.underlying35 (by kernel_rfl) (by kernel_rfl) f_ (fun m_ _ => (rdB43 m_)))) hsz hbulk (j := 2) (t := 35) rfl rfl h2
  obtain ⟨A2, c2, rfl, hc2, hr2⟩ := Rd.arg_slice Try.underlying35 (hval 2 35 v2 rfl rfl) g2
  clear hA0 hval0 hsz0 hsz
  refine (limbecklaw07_SubstPuts_walk x0 A0_3 c0_3 A0_4 c0_4 x1 A1 c1 x2 A2 c2 W hr0_3 hc0_3 hr0_4 hc0_4 hr1 hc1 hr2 hc2 o0 o1 o2 m0 m1 m2).mono fun e W' ⟨he, bel⟩ => ?_
  subst he
  exact ⟨_, rfl, show Rows.substPutsSpec.post enc Try.prog Try.f13 false true false false W _ _ W' from ⟨_, _, _, [], _, [], hW', trodAll_mk1 (shut_bool Try.underlying4 _), (trodAll_cons_mk (Below.trod laidOut (by kernel_rfl) (of_decide_eq_true (by kernel_rfl)) k0 bel lt0) (trodAll_cons_mk (Below.trod laidOut (by kernel_rfl) (of_decide_eq_true (by kernel_rfl)) k1 bel lt1) (trodAll_cons_mk (Below.trod laidOut (by kernel_rfl) (of_decide_eq_true (by kernel_rfl)) k2 bel lt2) trodAll_mk0))), rfl, bel.frame _, fun h => by cases h⟩⟩
theorem over : Rows.substPutsUptoRow.holds Try.pinned (Rows.OpenSpec.upto Rows.substPutsSpec) :=
  OpenClaim.holds_of_cond 13 Try.f13 rfl rfl rfl rfl rfl rfl rfl ⟨rfl, rfl, rfl, rfl, rfl⟩ rfl rfl rfl rfl rfl (by kernel_rfl) Try.func13 (by kernel_rfl)
    (of_decide_eq_true (by kernel_rfl)) (by unfold Func.isWrapper; first | (rw [if_pos (by decide +kernel)]; kernel_rfl) | (rw [if_neg (by decide +kernel)]; exact ⟨rfl, rfl⟩))
    (fun os started H enc _ F => lifted os started H enc F)
theorem proved : Rows.SubstPutsUptoSaid := over
#print axioms proved
end Go.Proofs.Ytnfnhjhnfdkinaa.substPuts
namespace Go.Proofs.Ytnfnhjhnfdkinaa
/-- The row, under a short name, for the claim. -/
theorem substPutsUpto_holds : Rows.SubstPutsUptoSaid := substPuts.proved
end Go.Proofs.Ytnfnhjhnfdkinaa

/-
  ConvBack: the row: for every input that can be read as data the law returns true, and what it was given reads as before. No conditions.
-/
import Derived.Test.YtnfnhjhnfdkinaaRows
import Derived.Test.YtnfnhjhnfdkinaazConvBack34
import Derived.WalkKit
import Derived.ProofKit
import Derived.OpenShut
import Derived.ShutString
import Derived.ChangeOld
import Derived.Below
import Derived.SizedLaws
namespace Go.Proofs.Ytnfnhjhnfdkinaa.convBack
open Go.ChangeShapes Go.WideShapes Go.ChangeAt Go.RowKit Go.Proofs.Ytnfnhjhnfdkinaa.PConvBack Go.Proofs.YtnfnhjhnfdkinaaW Go.Proofs.YtnfnhjhnfdkinaaW.PrintWords
open Go.ChangeMaps (open_string shut_string)
set_option linter.unusedVariables false
theorem own : ownKnob Try.prog.godebug = none := by kernel_rfl
theorem laidOut : laidOutB Try.prog = true := by kernel_rfl
set_option maxRecDepth 100000 in
theorem lifted (os : Os) (started : os.Started) (H : Type) (enc : TypeId × Value → H) :
    ReturnsInHanded {} Try.checked os 12 .any (Rows.convBackSpec.pre6 enc Try.prog Try.f12 Rows.convBackRow.domain false) (Rows.convBackSpec.post enc Try.prog Try.f12 false true false false) := by
  refine returnsInHanded_of_change_sized (C := Try.checked) own started (by kernel_rfl) Try.func12
    (ChangeSpec.witness6 (enc := enc) (C := Try.checked) false ⟨#[], #[.slice none 0 0, .agg #[.int .i64 0, .int .i64 0, .int .i64 0, .bool false, .string ByteArray.empty, .string ByteArray.empty, .int .i64 0, .slice none 0 0, .slice none 0 0, .slice none 0 0], .agg #[.int .i64 0, .int .i64 0, .int .i64 0, .bool false, .string ByteArray.empty, .string ByteArray.empty, .int .i64 0, .slice none 0 0, .slice none 0 0, .slice none 0 0], .agg #[.int .i64 0, .int .i64 0, .string ByteArray.empty, .slice none 0 0, .slice none 0 0], .int .u8 0], []⟩ 8 (by kernel_rfl) (by kernel_rfl) (by kernel_rfl) (by kernel_rfl)) ?_
  intro W base args ds gs before hval0 hW hcnd hsz0 _
  have hsz : (DataW.weightsEach Try.prog (Try.f12.params.toList ++ Rows.convBackSpec.plain.varTypes Try.prog) (ds ++ gs)).all (· ≤ reachBytes) = true := hsz0
  have hval : ∀ (j : Nat) t v, Try.f12.params[j]? = some t → args[j]? = some v → Value.okWide Try.prog W .any base t v := hval0
  have hW' := hW
  obtain ⟨p, q, hA0, hV, rfl, hfz, hnd⟩ := hW
  have hA : DataW.TrodAll enc Try.prog W 0 (fun _ => true) true Try.f12.params.toList args.toList ds p := hA0
  rw [Try.params12] at hA hval hsz
  obtain ⟨v0, vs0, d0, ds0, p0, q0, hargs, rfl, rfl, h0, r0⟩ := trodAll_cons hA
  obtain ⟨v1, vs1, d1, ds1, p1, q1, rfl, rfl, rfl, h1, r1⟩ := trodAll_cons r0
  obtain ⟨v2, vs2, d2, ds2, p2, q2, rfl, rfl, rfl, h2, r2⟩ := trodAll_cons r1
  obtain ⟨v3, vs3, d3, ds3, p3, q3, rfl, rfl, rfl, h3, r3⟩ := trodAll_cons r2
  obtain ⟨v4, vs4, d4, ds4, p4, q4, rfl, rfl, rfl, h4, r4⟩ := trodAll_cons r3
  obtain ⟨rfl, rfl, rfl⟩ := trodAll_nil r4
  obtain rfl : args = #[v0, v1, v2, v3, v4] := by cases args; simp_all
  obtain ⟨rfl, rfl⟩ := trodVars_none hV
  have k0 := h0
  have lt0 : ∀ x ∈ p0, x.block < W.heap.size := by obtain ⟨m, hm⟩ := k0; exact DataW.trod_lt m _ _ _ hm
  obtain ⟨x0, g0, o0⟩ := Rd.rd_arg (d := (Kd.slice 86 k86)) (fun f_ => (Rd.rd_slice (B := 184) Try.underlying50 (by kernel_rfl) (by kernel_rfl) f_ (fun m_ _ => (rd86 m_)))) hsz (j := 0) (t := 50) rfl rfl h0
  obtain ⟨A0, c0, rfl, hc0, hr0⟩ := Rd.arg_slice Try.underlying50 (hval 0 50 v0 rfl rfl) g0
  have k1 := h1
  have lt1 : ∀ x ∈ p1, x.block < W.heap.size := by obtain ⟨m, hm⟩ := k1; exact DataW.trod_lt m _ _ _ hm
  obtain ⟨x1, g1, o1⟩ := Rd.rd_arg rd55 hsz (j := 1) (t := 55) rfl rfl h1
  obtain ⟨A1_7, c1_7, A1_8, c1_8, A1_9, c1_9, e1, hc1_7, hr1_7, hc1_8, hr1_8, hc1_9, hr1_9⟩ := k55_open g1
  obtain rfl := Rd.arg_agg Try.underlying55 (hval 1 55 v1 rfl rfl) e1
  have k2 := h2
  have lt2 : ∀ x ∈ p2, x.block < W.heap.size := by obtain ⟨m, hm⟩ := k2; exact DataW.trod_lt m _ _ _ hm
  obtain ⟨x2, g2, o2⟩ := Rd.rd_arg rd55 hsz (j := 2) (t := 55) rfl rfl h2
  obtain ⟨A2_7, c2_7, A2_8, c2_8, A2_9, c2_9, e2, hc2_7, hr2_7, hc2_8, hr2_8, hc2_9, hr2_9⟩ := k55_open g2
  obtain rfl := Rd.arg_agg Try.underlying55 (hval 2 55 v2 rfl rfl) e2
  have k3 := h3
  have lt3 : ∀ x ∈ p3, x.block < W.heap.size := by obtain ⟨m, hm⟩ := k3; exact DataW.trod_lt m _ _ _ hm
  obtain ⟨x3, g3, o3⟩ := Rd.rd_arg rd25 hsz (j := 3) (t := 25) rfl rfl h3
  obtain ⟨A3_3, c3_3, A3_4, c3_4, e3, hc3_3, hr3_3, hc3_4, hr3_4⟩ := k25_open g3
  obtain rfl := Rd.arg_agg Try.underlying25 (hval 3 25 v3 rfl rfl) e3
  obtain ⟨a4, rfl, rfl, rfl, w4⟩ := open_int Try.underlying5 (hval 4 5 v4 rfl rfl) h4
  clear hA0 hval0 hsz0 hsz
  refine (limbecklaw31_ConvBack_walk x0 A0 c0 x1 A1_7 c1_7 A1_8 c1_8 A1_9 c1_9 x2 A2_7 c2_7 A2_8 c2_8 A2_9 c2_9 x3 A3_3 c3_3 A3_4 c3_4 a4 W hr0 hc0 hr1_7 hc1_7 hr1_8 hc1_8 hr1_9 hc1_9 hr2_7 hc2_7 hr2_8 hc2_8 hr2_9 hc2_9 hr3_3 hc3_3 hr3_4 hc3_4 o0 o1 o2 o3 w4).mono fun e W' ⟨he, bel⟩ => ?_
  subst he
  exact ⟨_, rfl, _, _, _, [], _, [], hW', trodAll_mk1 (shut_bool Try.underlying4 _), (trodAll_cons_mk (Below.trod laidOut (by kernel_rfl) (of_decide_eq_true (by kernel_rfl)) k0 bel lt0) (trodAll_cons_mk (Below.trod laidOut (by kernel_rfl) (of_decide_eq_true (by kernel_rfl)) k1 bel lt1) (trodAll_cons_mk (Below.trod laidOut (by kernel_rfl) (of_decide_eq_true (by kernel_rfl)) k2 bel lt2) (trodAll_cons_mk (Below.trod laidOut (by kernel_rfl) (of_decide_eq_true (by kernel_rfl)) k3 bel lt3) (trodAll_cons_mk (shut_int Try.underlying5 w4) trodAll_mk0))))), rfl, bel.frame _, fun h => by cases h⟩
theorem over : Rows.convBackRow.holds Try.pinned (OpenSpec.ofChange Rows.convBackSpec) :=
  OpenClaim.holds_of_wide 12 Try.f12 rfl rfl rfl rfl rfl rfl rfl ⟨rfl, rfl, rfl, rfl, rfl⟩ rfl rfl rfl rfl rfl (by kernel_rfl) Try.func12 (by kernel_rfl)
    (of_decide_eq_true (by kernel_rfl)) (by unfold Func.isWrapper; first | (rw [if_pos (by decide +kernel)]; kernel_rfl) | (rw [if_neg (by decide +kernel)]; exact ⟨rfl, rfl⟩))
    (fun os started H enc _ => lifted os started H enc)
theorem proved : Rows.ConvBackSaid := over
#print axioms proved
end Go.Proofs.Ytnfnhjhnfdkinaa.convBack
namespace Go.Proofs.Ytnfnhjhnfdkinaa
/-- The row, under a short name, for the claim. -/
theorem convBack_holds : Rows.ConvBackSaid := convBack.proved
end Go.Proofs.Ytnfnhjhnfdkinaa

/-
  EnvPlays: the row: for every input that can be read as data the law returns true, and what it was given reads as before. No conditions.
-/
import Derived.Test.YtalmhbiedkjpmaaRows
import Derived.Test.YtalmhbiedkjpmaaSEnvPlays
import Derived.WalkKit
import Derived.ProofKit
import Derived.OpenShut
import Derived.ShutString
import Derived.ChangeOld
import Derived.Below
import Derived.SizedLaws
namespace Go.Proofs.Ytalmhbiedkjpmaa.envPlays
open Go.ChangeShapes Go.WideShapes Go.ChangeAt Go.RowKit Go.Proofs.Ytalmhbiedkjpmaa.PEnvPlays Go.Proofs.YtalmhbiedkjpmaaW Go.Proofs.YtalmhbiedkjpmaaW.PrintWords
open Go.ChangeMaps (open_string shut_string)
set_option linter.unusedVariables false
theorem own : ownKnob Try.prog.godebug = none := by kernel_rfl
theorem laidOut : laidOutB Try.prog = true := by kernel_rfl
set_option maxRecDepth 100000 in
theorem lifted (os : Os) (started : os.Started) (H : Type) (enc : TypeId × Value → H) :
    ReturnsInHanded {} Try.checked os 8 .any (Rows.envPlaysSpec.pre6 enc Try.prog Try.f8 Rows.envPlaysRow.domain false) (Rows.envPlaysSpec.post enc Try.prog Try.f8 false true false false) := by
  refine returnsInHanded_of_change_sized (C := Try.checked) own started (by kernel_rfl) Try.func8
    (ChangeSpec.witness6 (enc := enc) (C := Try.checked) false ⟨#[], #[.slice none 0 0, .int .i64 0, .slice none 0 0, .string ByteArray.empty, .slice none 0 0], []⟩ 8 (by kernel_rfl) (by kernel_rfl) (by kernel_rfl) (by kernel_rfl)) ?_
  intro W base args ds gs before hval0 hW hcnd hsz0 _
  have hsz : (DataW.weightsEach Try.prog (Try.f8.params.toList ++ Rows.envPlaysSpec.plain.varTypes Try.prog) (ds ++ gs)).all (· ≤ reachBytes) = true := hsz0
  have hval : ∀ (j : Nat) t v, Try.f8.params[j]? = some t → args[j]? = some v → Value.okWide Try.prog W .any base t v := hval0
  have hW' := hW
  obtain ⟨p, q, hA0, hV, rfl, hfz, hnd⟩ := hW
  have hA : DataW.TrodAll enc Try.prog W 0 (fun _ => true) true Try.f8.params.toList args.toList ds p := hA0
  rw [Try.params8] at hA hval hsz
  obtain ⟨v0, vs0, d0, ds0, p0, q0, hargs, rfl, rfl, h0, r0⟩ := trodAll_cons hA
  obtain ⟨v1, vs1, d1, ds1, p1, q1, rfl, rfl, rfl, h1, r1⟩ := trodAll_cons r0
  obtain ⟨v2, vs2, d2, ds2, p2, q2, rfl, rfl, rfl, h2, r2⟩ := trodAll_cons r1
  obtain ⟨v3, vs3, d3, ds3, p3, q3, rfl, rfl, rfl, h3, r3⟩ := trodAll_cons r2
  obtain ⟨v4, vs4, d4, ds4, p4, q4, rfl, rfl, rfl, h4, r4⟩ := trodAll_cons r3
  obtain ⟨rfl, rfl, rfl⟩ := trodAll_nil r4
  obtain rfl : args = #[v0, v1, v2, v3, v4] := by cases args; simp_all
  obtain ⟨rfl, rfl⟩ := trodVars_none hV
  have k0 := h0
  have lt0 : ∀ x ∈ p0, x.block < W.heap.size := by obtain ⟨m, hm⟩ := k0; exact DataW.trod_lt m _ _ _ hm
  obtain ⟨x0, g0, o0⟩ := Rd.rd_arg (d := (Kd.slice 9 Kd.string)) (fun f_ => (Rd.rd_slice (B := 16) Try.underlying28 (by kernel_rfl) (by kernel_rfl) f_ (fun m_ _ => (Rd.rd_string Try.underlying9 m_)))) hsz (j := 0) (t := 28) rfl rfl h0
  obtain ⟨A0, c0, rfl, hc0, hr0⟩ := Rd.arg_slice Try.underlying28 (hval 0 28 v0 rfl rfl) g0
  obtain ⟨a1, rfl, rfl, rfl, w1⟩ := open_int Try.underlying3 (hval 1 3 v1 rfl rfl) h1
  have k2 := h2
  have lt2 : ∀ x ∈ p2, x.block < W.heap.size := by obtain ⟨m, hm⟩ := k2; exact DataW.trod_lt m _ _ _ hm
  obtain ⟨x2, g2, o2⟩ := Rd.rd_arg (d := (Kd.slice 54 k54)) (fun f_ => (Rd.rd_slice (B := 160) Try.underlying47 (by kernel_rfl) (by kernel_rfl) f_ (fun m_ _ => (rd54 m_)))) hsz (j := 2) (t := 47) rfl rfl h2
  obtain ⟨A2, c2, rfl, hc2, hr2⟩ := Rd.arg_slice Try.underlying47 (hval 2 47 v2 rfl rfl) g2
  obtain ⟨a3, rfl, rfl, rfl, y3⟩ := open_string Try.underlying9 (hval 3 9 v3 rfl rfl) h3
  have w3 : a3.size ≤ 140737488351232 := by
    have z := sized_string hsz (j := 3) (t := 9) rfl rfl
    rw [Array.length_toList] at z
    exact z
  have k4 := h4
  have lt4 : ∀ x ∈ p4, x.block < W.heap.size := by obtain ⟨m, hm⟩ := k4; exact DataW.trod_lt m _ _ _ hm
  obtain ⟨x4, g4, o4⟩ := Rd.rd_arg (d := (Kd.slice 33 k33)) (fun f_ => (Rd.rd_slice (B := 96) Try.underlying22 (by kernel_rfl) (by kernel_rfl) f_ (fun m_ _ => (rd33 m_)))) hsz (j := 4) (t := 22) rfl rfl h4
  obtain ⟨A4, c4, rfl, hc4, hr4⟩ := Rd.arg_slice Try.underlying22 (hval 4 22 v4 rfl rfl) g4
  clear hA0 hval0 hsz0 hsz
  refine (limbecklaw34_EnvPlays_walk x0 A0 c0 a1 x2 A2 c2 a3 x4 A4 c4 W hr0 hc0 hr2 hc2 hr4 hc4 o0 w1 o2 w3 o4).mono fun e W' ⟨he, bel⟩ => ?_
  subst he
  exact ⟨_, rfl, _, _, _, [], _, [], hW', trodAll_mk1 (shut_bool Try.underlying4 _), (trodAll_cons_mk (Below.trod laidOut (by kernel_rfl) (of_decide_eq_true (by kernel_rfl)) k0 bel lt0) (trodAll_cons_mk (shut_int Try.underlying3 w1) (trodAll_cons_mk (Below.trod laidOut (by kernel_rfl) (of_decide_eq_true (by kernel_rfl)) k2 bel lt2) (trodAll_cons_mk (shut_string Try.underlying9 y3) (trodAll_cons_mk (Below.trod laidOut (by kernel_rfl) (of_decide_eq_true (by kernel_rfl)) k4 bel lt4) trodAll_mk0))))), rfl, bel.frame _, fun h => by cases h⟩
theorem over : Rows.envPlaysRow.holds Try.pinned (OpenSpec.ofChange Rows.envPlaysSpec) :=
  OpenClaim.holds_of_wide 8 Try.f8 rfl rfl rfl rfl rfl rfl rfl ⟨rfl, rfl, rfl, rfl, rfl⟩ rfl rfl rfl rfl rfl (by kernel_rfl) Try.func8 (by kernel_rfl)
    (of_decide_eq_true (by kernel_rfl)) (by unfold Func.isWrapper; first | (rw [if_pos (by decide +kernel)]; kernel_rfl) | (rw [if_neg (by decide +kernel)]; exact ⟨rfl, rfl⟩))
    (fun os started H enc _ => lifted os started H enc)
theorem proved : Rows.EnvPlaysSaid := over
#print axioms proved
end Go.Proofs.Ytalmhbiedkjpmaa.envPlays
namespace Go.Proofs.Ytalmhbiedkjpmaa
/-- The row, under a short name, for the claim. -/
theorem envPlays_holds : Rows.EnvPlaysSaid := envPlays.proved
end Go.Proofs.Ytalmhbiedkjpmaa

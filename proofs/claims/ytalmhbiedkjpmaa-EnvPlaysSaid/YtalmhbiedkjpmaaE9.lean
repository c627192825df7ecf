/-
  env: Var; the walk of the law's own awake.
-/
import Derived.Test.YtalmhbiedkjpmaaE8
import Derived.Test.YtalmhbiedkjpmaaPEnvPlaysx6
import Derived.KernelRfl
namespace Go.Proofs.Ytalmhbiedkjpmaa.PEnvPlays
open Go.RowKit Go.Proofs.YtalmhbiedkjpmaaW.Mine Go.Proofs.YtalmhbiedkjpmaaW.PrintWords Go.Proofs.YtalmhbiedkjpmaaW.PrintLast Go.Proofs.YtalmhbiedkjpmaaW.PrintMore
attribute [local go_sem] max2_int min2_int max_two min_two max_three min_three max_four min_four
set_option linter.unusedVariables false
set_option linter.unusedSimpArgs false
theorem rsame_c (x y : Ty) (n : Nat) (r : Bool) (hr : limbeckref04_Same.f n x.f0 x.f1 x.f2 x.f3 x.f4 y.f0 y.f1 y.f2 y.f3 y.f4 = some r) {A3 A4 B3 B4 : Option Addr} {c3 c4 d3 d4 : Nat} {w : World} (h : RT w x A3 c3 A4 c4) (k : RT w y B3 d3 B4 d4) :
    Calls Try.prog 16 #[tv x A3 c3 A4 c4, tv y B3 d3 B4 d4] w fun e w' => e = .returned (.bool r) ∧ Below w.heap.size w w' :=
  (limbeckref04_Same.calls n x.f0 x.f1 x.f2 A3 c3 x.f3 A4 c4 x.f4 y.f0 y.f1 y.f2 B3 d3 y.f3 B4 d4 y.f4 r w h.2.1 h.1 h.2.2.2 h.2.2.1 k.2.1 k.1 k.2.2.2 k.2.2.1 hr).mono fun e w' k => k
abbrev intV (n : Int) : Vl := ⟨1, n, 0, false, ⟨#[]⟩, ⟨⟨#[]⟩, 0⟩, [], [], []⟩
theorem RV.int (w : World) (n : Int) : RV w (intV n) none 0 none 0 none 0 := ⟨Nat.le_refl _, Kd.C_nil _ w, Nat.le_refl _, Kd.C_nil _ w, Nat.le_refl _, Kd.C_nil _ w⟩
abbrev varX : Ty := ⟨6, 0, ⟨#[88]⟩, [], []⟩
theorem RT.var (w : World) : RT w varX none 0 none 0 := ⟨Nat.le_refl _, Kd.C_nil _ w, Nat.le_refl _, Kd.C_nil _ w⟩
theorem names_row (w : World) : Kd.string.C (w.alloc (.cells #[.string ⟨#[88]⟩] 9)) (some ⟨w.heap.size, 0, none⟩) [(⟨#[88]⟩ : ByteArray)].length [⟨#[88]⟩] :=
  Kd.C_of_reads (d := ByteArray.empty) ⟨rfl, by simp, fun _ => ⟨_, rfl, fun j hj => by
    obtain rfl : j = 0 := by simpa using hj
    exact (one (blk_new w _)).1⟩⟩
set_option maxRecDepth 100000 in
theorem var_c (w : World) : Calls Try.prog 42 #[.string ⟨#[88]⟩] w fun e w' => e = .returned (tv varX none 0 none 0) ∧ Below w.heap.size w w' := by
  go_enter Try.func42, Try.ntmps42
  go_wp2
  refine bodyPost_ret (results_cell_row rfl _ _ _ 31 _ (0, 0) _ rfl (blk_new w _) Try.underlying31 rfl (by kernel_rfl)) rfl ?_
  exact ⟨rfl, (Below.refl _ _).alloc (Nat.le_refl _) _⟩
theorem sealed_x : subst_Seal.f 20 varX.f0 varX.f1 varX.f2 varX.f3 varX.f4 [⟨#[88]⟩] 4 = some (9, 4, ⟨#[]⟩, [], []) := by kernel_rfl
theorem eqText_refl (s : ByteArray) : eqText s s = true := by simp [eqText]
theorem find_head (s : ByteArray) (t : Vl) (l : List Sl) : List.find? (fun x => eqText x.f0 s) (⟨s, t⟩ :: l) = some ⟨s, t⟩ := List.find?_cons_of_pos (eqText_refl s)
set_option maxHeartbeats 4000000 in
set_option maxRecDepth 100000 in
theorem awake_c (w : World) : Calls Try.prog 23 #[] w fun e w' => e = .returned (.bool true) ∧ Below w.heap.size w w' := by
  have hfield : ∀ (x0 x2 x3 x4 : Value) (n : Int) W, (Instr.field 31 (.agg #[x0, .int .i64 n, x2, x3, x4]) 1).run Try.prog W = .ok (.int .i64 n) W := fun x0 x2 x3 x4 n W => by kernel_rfl
  go_enter Try.func23, Try.ntmps23
  go_wp2_with fail
  have bR := below_alloc1 w (.cells #[.string ⟨#[88]⟩] 9)
  refine (of_c [⟨#[88]⟩] 4 _ _ _ (names_row w) (Nat.le_refl _) (by simp)).mono ?_
  rintro e w2 ⟨tp, q, rfl, hq, hT, hb2⟩
  have b2 := chain bR hb2
  clear bR hb2
  go_wp2_with fail
  refine (with_c ⟨#[120]⟩ (intV 3) hq (RV.int w2 3) (by simp)).mono ?_
  rintro e w3 ⟨q3, rfl, hq3, hb3⟩
  replace hT := hT.below hb3
  have b3 := chain b2 hb3
  clear b2 hb3 hq
  go_wp2_with fail
  refine (with_c ⟨#[120]⟩ (intV 5) hq3 (RV.int w3 5) (by simp)).mono ?_
  rintro e w4 ⟨q4, rfl, hq4, hb4⟩
  replace hT := hT.below hb4
  have b4 := chain b3 hb4
  clear b3 hb4 hq3
  go_wp2_with fail
  refine (find_c ⟨#[120]⟩ hq4 (by simp)).mono ?_
  rintro e w5 ⟨hb5, hf⟩
  rw [find_head] at hf
  obtain ⟨A6, c6, A7, c7, A8, c8, rfl, hr5⟩ := hf
  have b5 := chain b4 hb5
  replace hq4 := hq4.below hb5
  replace hT := hT.below hb5
  clear b4 hb5 hr5
  have kT := blk_new w5 (.cells (vcells (intV 5) A6 c6 A7 c7 A8 c8) 52)
  have bT := below_alloc1 w5 (.cells (vcells (intV 5) A6 c6 A7 c7 A8 c8) 52)
  obtain ⟨⟨t0, t1, t2, t3, t4, t5, t6, t7, t8, t9⟩, _, lt⟩ := ten kT
  have b6 := chain b5 bT
  replace hq4 := hq4.below bT
  replace hT := hT.below bT
  clear kT
  go_wp2_with fail
  refine (len_c hq4).mono ?_
  rintro e w6 ⟨rfl, rfl⟩
  go_wp2_with fail
  refine (var_c _).mono ?_
  rintro e w7 ⟨rfl, hb7⟩
  have b7 := chain b6 hb7
  replace hq4 := hq4.below hb7
  replace hT := hT.below hb7
  clear t0 t1 t2 t3 t4 t5 t6 t7 t8 t9 lt hb7 b6
  go_wp2_with fail
  refine (close_c varX _ _ sealed_x hq4 hT (RT.var _)).mono ?_
  rintro e w8 ⟨B3, d3, B4, d4, rfl, hr8, hb8⟩
  have b8 := chain b7 hb8
  clear hr8 hb8 hq4 hT
  go_wp2
  go_ret
  exact ⟨rfl, b8⟩
end Go.Proofs.Ytalmhbiedkjpmaa.PEnvPlays

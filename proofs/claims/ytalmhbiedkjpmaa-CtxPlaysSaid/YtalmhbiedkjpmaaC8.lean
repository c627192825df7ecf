/-
  ctx: contracts of limbeckref04's Simple, Dyn, Same; the walk of the law's own awake.
-/
import Derived.Test.YtalmhbiedkjpmaaC7
import Derived.KernelRfl
namespace Go.Proofs.Ytalmhbiedkjpmaa.PCtxPlays
open Go.RowKit Go.Proofs.YtalmhbiedkjpmaaW.Mine Go.Proofs.YtalmhbiedkjpmaaW.PrintWords Go.Proofs.YtalmhbiedkjpmaaW.PrintLast Go.Proofs.YtalmhbiedkjpmaaW.PrintMore
attribute [local go_sem] max2_int min2_int max_two min_two max_three min_three max_four min_four
set_option linter.unusedVariables false
set_option linter.unusedSimpArgs false
abbrev simpleTy (k : Int) : Ty := ⟨k, 0, ⟨#[]⟩, [], []⟩
theorem RT.nil (w : World) (k : Int) : RT w (simpleTy k) none 0 none 0 := ⟨Nat.le_refl _, ⟨rfl, by simp, fun h => absurd h (by simp)⟩, Nat.le_refl _, ⟨rfl, by simp, fun h => absurd h (by simp)⟩⟩
set_option maxRecDepth 100000 in
theorem simple_c (k : Int) (w : World) : Calls Try.prog 37 #[.int .i64 k] w fun e w' => e = .returned (tv (simpleTy k) none 0 none 0) ∧ Below w.heap.size w w' := by
  go_enter Try.func37, Try.ntmps37
  go_wp2
  refine bodyPost_ret (results_cell_row rfl _ _ _ 31 _ (0, 0) _ rfl (blk_new w _) Try.underlying31 rfl (by kernel_rfl)) rfl ?_
  exact ⟨rfl, (Below.refl _ _).alloc (Nat.le_refl _) _⟩
set_option maxRecDepth 100000 in
theorem dyn_c (w : World) : Calls Try.prog 21 #[] w fun e w' => e = .returned (tv (simpleTy 5) none 0 none 0) ∧ Below w.heap.size w w' := by
  go_enter Try.func21, Try.ntmps21
  go_wp2
  refine bodyPost_ret (results_cell_row rfl _ _ _ 31 _ (0, 0) _ rfl (blk_new w _) Try.underlying31 rfl (by kernel_rfl)) rfl ?_
  exact ⟨rfl, (Below.refl _ _).alloc (Nat.le_refl _) _⟩
theorem rsame_c (x y : Ty) (n : Nat) (r : Bool) (hr : limbeckref04_Same.f n x.f0 x.f1 x.f2 x.f3 x.f4 y.f0 y.f1 y.f2 y.f3 y.f4 = some r) {A3 A4 B3 B4 : Option Addr} {c3 c4 d3 d4 : Nat} {w : World} (h : RT w x A3 c3 A4 c4) (k : RT w y B3 d3 B4 d4) :
    Calls Try.prog 16 #[tv x A3 c3 A4 c4, tv y B3 d3 B4 d4] w fun e w' => e = .returned (.bool r) ∧ Below w.heap.size w w' :=
  (limbeckref04_Same.calls n x.f0 x.f1 x.f2 A3 c3 x.f3 A4 c4 x.f4 y.f0 y.f1 y.f2 B3 d3 y.f3 B4 d4 y.f4 r w h.2.1 h.1 h.2.2.2 h.2.2.1 k.2.1 k.1 k.2.2.2 k.2.2.1 hr).mono fun e w' k => k
theorem eqText_refl (s : ByteArray) : eqText s s = true := by simp [eqText]
theorem find_head (s : ByteArray) (t : Ty) (l : List Bd) : List.find? (fun x => eqText x.f0 s) (⟨s, t⟩ :: l) = some ⟨s, t⟩ := List.find?_cons_of_pos (eqText_refl s)
abbrev bindI : Bd := ⟨⟨#[120]⟩, simpleTy 1⟩
theorem one_row (w : World) : kBd.C (w.alloc (.cells #[.string ⟨#[120]⟩, .int .i64 1, .int .i64 0, .string ⟨#[]⟩, .slice none 0 0, .slice none 0 0] 33)) (some ⟨w.heap.size, 0, none⟩) 1 [bindI] := by
  have e : Ent w := ⟨bindI, none, 0, none, 0, RT.nil w 1⟩
  have h : RowB (w0 := w) (w.alloc (.cells #[.string ⟨#[120]⟩, .int .i64 1, .int .i64 0, .string ⟨#[]⟩, .slice none 0 0, .slice none 0 0] 33)) w.heap.size [⟨bindI, none, 0, none, 0, RT.nil w 1⟩] [] := blk_new w _
  exact row_reads h (by simp) (below_alloc1 w _)
set_option maxHeartbeats 4000000 in
set_option maxRecDepth 100000 in
theorem awake_c (w : World) : Calls Try.prog 10 #[] w fun e w' => e = .returned (.bool true) ∧ Below w.heap.size w w' := by
  go_enter Try.func10, Try.ntmps10
  go_wp2_with fail
  go_call (simple_c 1) as e w1 ⟨he, hb1⟩
  subst he
  go_wp2_with fail
  have bR := below_alloc1 w1 (.cells #[.string ⟨#[120]⟩, .int .i64 1, .int .i64 0, .string ⟨#[]⟩, .slice none 0 0, .slice none 0 0] 33)
  refine (of_c [bindI] (one_row w1) (by simp)).mono ?_
  rintro e w2 ⟨q, rfl, hq, hb2⟩
  have b2 := chain hb1 (chain bR hb2)
  clear hb1 bR hb2
  go_wp2_with fail
  go_call (dyn_c) as e w3 ⟨he, hb3⟩
  subst he
  have b3 := chain b2 hb3
  replace hq := hq.below hb3
  clear b2 hb3
  go_wp2_with fail
  refine (with_c ⟨#[120]⟩ (simpleTy 5) hq (RT.nil w3 5) (by simp)).mono ?_
  rintro e w4 ⟨q4, rfl, hq4, hb4⟩
  have b4 := chain b3 hb4
  clear b3 hb4 hq
  go_wp2_with fail
  refine (find_c ⟨#[120]⟩ hq4 (by simp)).mono ?_
  rintro e w5 ⟨hb5, hf⟩
  rw [find_head] at hf
  obtain ⟨A3, c3, A4, c4, rfl, hr5⟩ := hf
  have b5 := chain b4 hb5
  replace hq4 := hq4.below hb5
  clear b4 hb5
  have kT := blk_new w5 (.cells #[.int .i64 (simpleTy 5).f0, .int .i64 (simpleTy 5).f1, .string (simpleTy 5).f2, .slice A3 (simpleTy 5).f3.length c3, .slice A4 (simpleTy 5).f4.length c4] 31)
  have bT := below_alloc1 w5 (.cells #[.int .i64 (simpleTy 5).f0, .int .i64 (simpleTy 5).f1, .string (simpleTy 5).f2, .slice A3 (simpleTy 5).f3.length c3, .slice A4 (simpleTy 5).f4.length c4] 31)
  obtain ⟨⟨t0, t1, t2, t3, t4⟩, _, lt⟩ := five kT
  have b6 := chain b5 bT
  replace hq4 := hq4.below bT
  go_wp2_with fail
  refine (len_c hq4).mono ?_
  rintro e w6 ⟨rfl, rfl⟩
  go_wp2_with fail
  refine (all_c hq4 (by simp)).mono ?_
  rintro e w7 ⟨A, c, rfl, hc, hr, hb7⟩
  have b7 := chain b6 hb7
  clear hr hc hb7 kT t0 t1 t2 t3 t4 lt
  go_wp2
  go_ret
  exact ⟨rfl, b7⟩
end Go.Proofs.Ytalmhbiedkjpmaa.PCtxPlays

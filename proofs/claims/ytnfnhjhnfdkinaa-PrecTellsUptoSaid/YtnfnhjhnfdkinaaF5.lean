/-
  prec: contracts of limbeckref04's Simple, Dyn, Fun, Same, and of Less, over types as values.
-/
import Derived.Test.YtnfnhjhnfdkinaaF0
import Derived.Test.YtnfnhjhnfdkinaaPPrecTellsx4
import Derived.Test.YtnfnhjhnfdkinaaPPrecTellsx3
namespace Go.Proofs.Ytnfnhjhnfdkinaa.PPrecTells
open Go.RowKit Go.Proofs.YtnfnhjhnfdkinaaW.Mine Go.Proofs.YtnfnhjhnfdkinaaW.PrintWords Go.Proofs.YtnfnhjhnfdkinaaW.PrintLast Go.Proofs.YtnfnhjhnfdkinaaW.PrintMore
attribute [local go_sem] max2_int min2_int max_two min_two max_three min_three max_four min_four
set_option linter.unusedVariables false
set_option linter.unusedSimpArgs false
abbrev simpleTy (k : Int) : Ty := ⟨k, 0, ⟨#[]⟩, [], []⟩
abbrev funTy (a b : Ty) : Ty := ⟨7, 0, ⟨#[]⟩, [], [a, b]⟩
theorem FT.nil (w : World) (ok : Nat → Prop) (k : Int) : FT w ok (simpleTy k) none 0 none 0 := ⟨Nat.le_refl _, Kd.F_nil _ _ _, Nat.le_refl _, Kd.F_nil _ _ _⟩
set_option maxRecDepth 100000 in
theorem simple_c (k : Int) (w : World) : Calls Try.prog 51 #[.int .i64 k] w fun e w' => e = .returned (tv (simpleTy k) none 0 none 0) ∧ Below w.heap.size w w' := by
  go_enter Try.func51, Try.ntmps51
  go_wp2
  refine bodyPost_ret (results_cell_row rfl _ _ _ 25 _ (0, 0) _ rfl (blk_new w _) Try.underlying25 rfl (by kernel_rfl)) rfl ?_
  exact ⟨rfl, (Below.refl _ _).alloc (Nat.le_refl _) _⟩
set_option maxRecDepth 100000 in
theorem dyn_c (w : World) : Calls Try.prog 52 #[] w fun e w' => e = .returned (tv (simpleTy 5) none 0 none 0) ∧ Below w.heap.size w w' := by
  go_enter Try.func52, Try.ntmps52
  go_wp2
  refine bodyPost_ret (results_cell_row rfl _ _ _ 25 _ (0, 0) _ rfl (blk_new w _) Try.underlying25 rfl (by kernel_rfl)) rfl ?_
  exact ⟨rfl, (Below.refl _ _).alloc (Nat.le_refl _) _⟩
theorem fun_c (a b : Ty) {ok ok' : Nat → Prop} {A3 A4 B3 B4 : Option Addr} {c3 c4 d3 d4 : Nat} {w : World} (ha : FT w ok a A3 c3 A4 c4) (hb : FT w ok' b B3 d3 B4 d4) :
    Calls Try.prog 53 #[tv a A3 c3 A4 c4, tv b B3 d3 B4 d4] w fun e w' => ∃ C3 e3 C4 e4, e = .returned (tv (funTy a b) C3 e3 C4 e4) ∧ FT w' (fun k => (ok k ∨ ok' k) ∨ w.heap.size ≤ k) (funTy a b) C3 e3 C4 e4 ∧ Below w.heap.size w w' := by
  refine (limbeckref04_Fun.calls a.f0 a.f1 a.f2 ok A3 c3 a.f3 ok A4 c4 a.f4 b.f0 b.f1 b.f2 ok' B3 d3 b.f3 ok' B4 d4 b.f4 7 0 ⟨#[]⟩ [] [a, b] w (Kd.V_mk ha.1 ha.2.1) (Kd.V_mk ha.2.2.1 ha.2.2.2) (Kd.V_mk hb.1 hb.2.1) (Kd.V_mk hb.2.2.1 hb.2.2.2) (by cases a; cases b; rfl)).mono ?_
  rintro e w' ⟨v3, v4, rfl, hR, hN, hbel⟩
  obtain ⟨C3, e3, rfl, hl3, hF3⟩ := Kd.R_V (base' := 0) hR
  obtain ⟨C4, e4, rfl⟩ := Kd.N_slice hN
  exact ⟨C3, e3, C4, e4, rfl, ⟨hl3, Kd.F_mono hF3 (fun k hk => .inr hk), (Kd.N_reads' hN).2.1, Kd.F_mono (Kd.N_F hN) (fun k hk => by rcases hk.1 with (h | h | h | h) | h; exact .inl (.inl h); exact .inl (.inl h); exact .inl (.inr h); exact .inl (.inr h); exact .inr h)⟩, hbel⟩
theorem rsame_c (x y : Ty) (n : Nat) (r : Bool) (hr : limbeckref04_Same.f n x.f0 x.f1 x.f2 x.f3 x.f4 y.f0 y.f1 y.f2 y.f3 y.f4 = some r) {ok ok' : Nat → Prop} {A3 A4 B3 B4 : Option Addr} {c3 c4 d3 d4 : Nat} {w : World} (h : FT w ok x A3 c3 A4 c4) (k : FT w ok' y B3 d3 B4 d4) :
    Calls Try.prog 22 #[tv x A3 c3 A4 c4, tv y B3 d3 B4 d4] w fun e w' => e = .returned (.bool r) ∧ Below w.heap.size w w' :=
  (limbeckref04_Same.calls n x.f0 x.f1 x.f2 A3 c3 x.f3 A4 c4 x.f4 y.f0 y.f1 y.f2 B3 d3 y.f3 B4 d4 y.f4 r w h.r3 h.1 h.r4 h.2.2.1 k.r3 k.1 k.r4 k.2.2.1 hr).mono fun e w' k => k
theorem less_c (x y : Ty) {ok ok' : Nat → Prop} {A3 A4 B3 B4 : Option Addr} {c3 c4 d3 d4 : Nat} {w : World} (h : FT w ok x A3 c3 A4 c4) (k : FT w ok' y B3 d3 B4 d4) :
    Calls Try.prog 20 #[tv x A3 c3 A4 c4, tv y B3 d3 B4 d4] w fun e w' => e = .returned (.bool (less x y)) ∧ Below w.heap.size w w' :=
  (prec_Less.calls x.f0 x.f1 x.f2 A3 c3 x.f3 A4 c4 x.f4 y.f0 y.f1 y.f2 B3 d3 y.f3 B4 d4 y.f4 _ w h.r3 h.1 h.r4 h.2.2.1 k.r3 k.1 k.r4 k.2.2.1 (by cases x; cases y; rfl)).mono fun e w' k => k
end Go.Proofs.Ytnfnhjhnfdkinaa.PPrecTells

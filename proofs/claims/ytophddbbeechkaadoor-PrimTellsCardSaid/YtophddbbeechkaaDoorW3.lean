/-
  prim: what Do answers, said once; SameVal of a value with itself; awake.
-/
import Derived.Test.YtophddbbeechkaaDoorW2
namespace Go.Proofs.YtophddbbeechkaaDoor.W3
open Go.RowKit Go.Proofs.YtophddbbeechkaaDoorW.PrintWords Go.Proofs.YtophddbbeechkaaDoorW.PrintLast Go.Proofs.YtophddbbeechkaaDoorW.PrintMore Go.Proofs.YtophddbbeechkaaDoorW.Mine Go.Proofs.YtophddbbeechkaaDoor.W1 Go.Proofs.YtophddbbeechkaaDoor.W2
attribute [local go_sem] max2_int min2_int
set_option linter.unusedVariables false
set_option linter.unusedSimpArgs false
set_option maxHeartbeats 2000000 in
set_option maxRecDepth 100000 in
theorem all_nil (w : World) : Calls Tryd.prog 24 #[.slice none 0 0, .slice none 0 0] w fun e w' => e = .returned (.bool true) ∧ w' = w := by
  go_enter Tryd.func24, Tryd.ntmps24
  go_wp2
  go_rounds 1
  go_returns
  exact ⟨rfl, rfl⟩
set_option maxHeartbeats 2000000 in
set_option maxRecDepth 100000 in
theorem names_nil (w : World) : Calls Tryd.prog 25 #[.slice none 0 0, .slice none 0 0] w fun e w' => e = .returned (.bool true) ∧ w' = w := by
  go_enter Tryd.func25, Tryd.ntmps25
  go_wp2
  go_rounds 1
  go_returns
  exact ⟨rfl, rfl⟩
set_option maxHeartbeats 2000000 in
set_option maxRecDepth 100000 in
theorem vals_nil (w : World) : Calls Tryd.prog 26 #[.slice none 0 0, .slice none 0 0] w fun e w' => e = .returned (.bool true) ∧ w' = w := by
  go_enter Tryd.func26, Tryd.ntmps26
  go_wp2
  go_rounds 1
  go_returns
  exact ⟨rfl, rfl⟩
set_option maxHeartbeats 2000000 in
set_option maxRecDepth 100000 in
theorem same_c (k n : Int) (s : ByteArray) (w : World) : Calls Tryd.prog 12 #[vv k n s, vv k n s] w fun e w' => e = .returned (.bool true) ∧ Below w.heap.size w w' := by
  go_enter Tryd.func12, Tryd.ntmps12
  go_wp2_with fail
  go_call all_nil as e w1 ⟨he, hw⟩
  subst he; subst hw
  go_wp2_with fail
  go_call names_nil as e w2 ⟨he, hw⟩
  subst he; subst hw
  go_wp2_with fail
  go_call vals_nil as e w3 ⟨he, hw⟩
  subst he; subst hw
  go_wp2
  go_returns
  exact ⟨rfl, by go_grown⟩
theorem field_n (k n : Int) (s : ByteArray) (w : World) : (Instr.field 28 (vv k n s) 1).run Tryd.prog w = .ok (.int .i64 n) w := by kernel_rfl
theorem chain {w a b : World} (h : Below w.heap.size w a) (k : Below a.heap.size a b) : Below w.heap.size w b := h.trans (k.mono h.size)
set_option maxHeartbeats 4000000 in
set_option maxRecDepth 100000 in
theorem awake_c (w : World) (hG : GW w) : Calls Tryd.prog 9 #[] w fun e w' => e = .returned (.bool true) ∧ Below w.heap.size w w' := by
  go_enter Tryd.func9, Tryd.ntmps9
  go_wp2_with fail
  go_call (int_c 7) as e w1 ⟨he, hb1⟩
  subst he
  go_wp2_with fail
  go_call (int_c 2) as e w2 ⟨he, hb2⟩
  subst he
  have hG2 := (hG.below hb1).below hb2
  go_wp2_with fail
  go_call (do_div 1 7 1 2 _ _ _ _ _ _ _ _ _ _ _ _ _ _ _ _ w2 hG2 rfl rfl (by decide)) as e w3 ⟨he, hb3⟩
  rw [show wrap64 ((7 : Int).tdiv 2) = 3 from by unfold wrap64; simp] at he
  subst he
  go_wp2_with fail
  go_call (int_c 7) as e w4 ⟨he, hb4⟩
  subst he
  have f4 : w4.cell? ⟨w3.heap.size, 1, none⟩ = some (.int .i64 3) := (hb4.cell (by simp only [World.size_alloc]; omega)).trans (by go_cell)
  have s4 : w3.heap.size < w4.heap.size := Nat.lt_of_lt_of_le (by simp only [World.size_alloc]; omega) hb4.size
  have g4 : GW w4 := ((hG2.below hb3).below ((Below.refl _ _).alloc (Nat.le_refl _) _)).below hb4
  have b4 : Below w.heap.size w w4 := chain (chain (chain (chain hb1 hb2) hb3) ((Below.refl _ _).alloc (Nat.le_refl _) _)) hb4
  clear hb1 hb2 hb3 hb4 hG hG2
  go_wp2_with fail
  go_call (int_c 0) as e w5 ⟨he, hb5⟩
  subst he
  have f5 := (hb5.cell s4).trans f4
  have s5 := Nat.lt_of_lt_of_le s4 hb5.size
  have g5 := g4.below hb5
  have b5 := chain b4 hb5
  clear f4 s4 g4 b4 hb5
  go_wp2_with fail
  go_call (do_zero 1 7 1 0 _ _ _ _ _ _ _ _ _ _ _ _ _ _ _ _ w5 g5 rfl rfl rfl) as e w6 ⟨he, hb6⟩
  subst he
  have f6 := (hb6.cell s5).trans f5
  have s6 := Nat.lt_of_lt_of_le s5 hb6.size
  have g6 := g5.below hb6
  have b6 := chain b5 hb6
  clear f5 s5 g5 b5 hb6
  go_wp2_with fail
  go_call (str_c _) as e w7 ⟨he, hb7⟩
  subst he
  have f7 := (hb7.cell (p := ⟨w3.heap.size, 1, none⟩) (by simp only [World.size_alloc]; omega)).trans ((((Below.refl _ _).alloc (Nat.le_refl _) _).cell s6).trans f6)
  have s7 : w3.heap.size < w7.heap.size := Nat.lt_of_lt_of_le (by simp only [World.size_alloc]; omega) hb7.size
  have g7 := (g6.below ((Below.refl _ _).alloc (Nat.le_refl _) _)).below hb7
  have b7 := chain (chain b6 ((Below.refl _ _).alloc (Nat.le_refl _) _)) hb7
  clear f6 s6 g6 b6 hb7
  go_wp2_with fail
  go_call (str_c _) as e w8 ⟨he, hb8⟩
  subst he
  have f8 := (hb8.cell s7).trans f7
  have s8 := Nat.lt_of_lt_of_le s7 hb8.size
  have g8 := g7.below hb8
  have b8 := chain b7 hb8
  clear f7 s7 g7 b7 hb8
  go_wp2_with fail
  go_call (do_cat 3 0 3 0 _ _ _ _ _ _ _ _ _ _ _ _ _ _ _ _ w8 g8 rfl rfl (by decide)) as e w9 ⟨he, hb9⟩
  rw [show ByteArray.extract (ByteArray.extract ⟨#[97]⟩ 0 256 ++ ByteArray.extract ⟨#[98]⟩ 0 256) 0 256 = ⟨#[97, 98]⟩ from by decide] at he
  subst he
  have f9 := (hb9.cell s8).trans f8
  have s9 := Nat.lt_of_lt_of_le s8 hb9.size
  have g9 := g8.below hb9
  have b9 := chain b8 hb9
  clear f8 s8 g8 b8 hb9
  go_wp2_with fail
  go_call (bool_c true) as e w10 ⟨he, hb10⟩
  simp only [vv, cond_true] at he
  subst he
  have hrun := field_n 2 1 ⟨#[]⟩ w10
  have g10 := (g9.below ((Below.refl _ _).alloc (Nat.le_refl _) _)).below hb10
  have b10 := chain (chain b9 ((Below.refl _ _).alloc (Nat.le_refl _) _)) hb10
  clear f9 s9 g9 b9 hb10
  go_wp2_with fail
  go_call (takes_c 5 w10 g10) as e w11 ⟨he, hb11⟩
  rw [show takesTab 5 = 3 from rfl] at he
  subst he
  have b11 := chain b10 hb11
  go_wp2
  go_returns
  exact ⟨rfl, b11⟩
end Go.Proofs.YtophddbbeechkaaDoor.W3

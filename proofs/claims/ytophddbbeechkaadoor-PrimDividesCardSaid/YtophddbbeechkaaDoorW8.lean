/-
  prim: the walk of PrimDivides.
-/
import Derived.Test.YtophddbbeechkaaDoorWB
namespace Go.Proofs.YtophddbbeechkaaDoor.W8
open Go.RowKit Go.Proofs.YtophddbbeechkaaDoorW.PrintWords Go.Proofs.YtophddbbeechkaaDoorW.PrintLast Go.Proofs.YtophddbbeechkaaDoorW.PrintMore Go.Proofs.YtophddbbeechkaaDoorW.Mine Go.Proofs.YtophddbbeechkaaDoor.W1 Go.Proofs.YtophddbbeechkaaDoor.W2 Go.Proofs.YtophddbbeechkaaDoor.W3 Go.Proofs.YtophddbbeechkaaDoor.W5 Go.Proofs.YtophddbbeechkaaDoor.WB
attribute [local go_sem] max2_int min2_int
set_option linter.unusedVariables false
set_option linter.unusedSimpArgs false
theorem wrap_in (x : Int) (h0 : -9223372036854775808 ≤ x) (h1 : x ≤ 9223372036854775807) : wrap64 x = x := by unfold wrap64; omega
/-- The rest of a division is a number less, without its sign, than the divisor, on the number's side. -/
theorem rest_facts (a b : Int) (hb : b ≠ 0) : (0 ≤ a → 0 ≤ a.tmod b) ∧ (a ≤ 0 → a.tmod b ≤ 0) ∧ (0 < b → a.tmod b < b ∧ -b < a.tmod b) ∧ (b < 0 → a.tmod b < -b ∧ b < a.tmod b) := by
  have hp : ∀ x : Int, 0 ≤ x → 0 ≤ x.tmod b := fun x hx => Int.tmod_nonneg b hx
  have hn : ∀ x : Int, (-x).tmod b = -(x.tmod b) := fun x => Int.neg_tmod x b
  have hl : ∀ x : Int, 0 ≤ x → x.tmod b < b.natAbs := fun x hx => by
    have := Int.tmod_lt_of_pos x (by omega : (0 : Int) < b.natAbs)
    rcases Int.natAbs_eq b with h | h
    · rw [h]; simpa using this
    · rw [h, Int.tmod_neg]; simpa using this
  rcases Int.le_total 0 a with h | h
  · have h1 := hp a h
    have h2 := hl a h
    exact ⟨fun _ => h1, fun h' => by have : a = 0 := by omega
                                     subst this; simp, fun _ => by omega, fun _ => by omega⟩
  · have h1 := hp (-a) (by omega)
    have h2 := hl (-a) (by omega)
    rw [hn] at h1 h2
    exact ⟨fun h' => by have : a = 0 := by omega
                        subst this; simp, fun _ => by omega, fun _ => by omega, fun _ => by omega⟩
theorem rest_is (a b : Int) (hb : b ≠ 0) (b0 : -9223372036854775808 ≤ b) (b1 : b ≤ 9223372036854775807) : ar 2 a (ar 3 (wrap64 (a.tdiv b)) b) = a.tmod b := by
  obtain ⟨_, _, h1, h2⟩ := rest_facts a b hb
  have e : wrap64 (a - wrap64 (wrap64 (a.tdiv b) * b)) = wrap64 (a.tmod b) := by
    apply w64_congr
    have k1 : (wrap64 (a.tdiv b) * b) % 18446744073709551616 = (a.tdiv b * b) % 18446744073709551616 := by rw [Int.mul_emod, w64_mod, ← Int.mul_emod]
    have k2 := w64_mod (wrap64 (a.tdiv b) * b)
    have k3 : a.tmod b = a - a.tdiv b * b := by rw [Int.tmod_def, Int.mul_comm]
    rw [k3]
    generalize a.tdiv b * b = t at *
    generalize wrap64 (wrap64 (a.tdiv b) * b) = u at *
    omega
  rw [ar_sub, ar_mul, e]
  apply wrap_in <;> rcases Int.lt_or_gt_of_ne hb with h | h
  · have := h2 h; omega
  · have := h1 h; omega
  · have := h2 h; omega
  · have := h1 h; omega
set_option maxHeartbeats 4000000 in
set_option maxRecDepth 100000 in
theorem divides_c (a b : Int) (y0 : (Lit.int .i64 a).wf = true) (y1 : (Lit.int .i64 b).wf = true) (w : World) (hG : GW w) : Calls Tryd.prog 6 #[.int .i64 a, .int .i64 b] w fun e w' => e = .returned (.bool true) ∧ Below w.heap.size w w' := by
  have al : ∀ (a : World) (o : Obj), Below a.heap.size a (a.alloc o) := fun a o => (Below.refl _ _).alloc (Nat.le_refl _) o
  by_cases hz : b = 0
  · subst hz
    go_enter Tryd.func6, Tryd.ntmps6
    go_wp2_with fail
    go_call (int_c a) as e w1 ⟨he, hb1⟩
    subst he
    go_wp2_with fail
    go_call (int_c 0) as e w2 ⟨he, hb2⟩
    subst he
    have f2 := ((Fit.start hG).next hb1).next hb2
    go_wp2_with fail
    go_call (do_zero 1 a 1 0 _ _ _ _ _ _ _ _ _ _ _ _ _ _ _ _ w2 f2.gw rfl rfl rfl) as e w3 ⟨he, hb3⟩
    subst he
    have f3 := (f2.next hb3).alloc (.cells (cells 0 0 E0).toArray 28)
    go_wp2_with fail
    go_call (awake_c _ f3.gw) as e w4 ⟨he, hb4⟩
    subst he
    go_wp2
    go_returns
    exact ⟨rfl, (f3.next hb4).bel⟩
  · obtain ⟨b0, b1⟩ : -9223372036854775808 ≤ b ∧ b ≤ 9223372036854775807 := by simpa [Lit.wf, IntKind.min, IntKind.max, IntKind.signed, IntKind.bits] using y1
    have c0 : decide (b = 0) = false := decide_eq_false hz
    have hr := rest_is a b hz b0 b1
    obtain ⟨r1, r2, r3, r4⟩ := rest_facts a b hz
    generalize a.tmod b = r at hr r1 r2 r3 r4
    go_enter Tryd.func6, Tryd.ntmps6
    go_wp2_with fail
    go_call (int_c a) as e w1 ⟨he, hb1⟩
    subst he
    go_wp2_with fail
    go_call (int_c b) as e w2 ⟨he, hb2⟩
    subst he
    have f2 := ((Fit.start hG).next hb1).next hb2
    go_wp2_with fail
    go_call (do_div 1 a 1 b _ _ _ _ _ _ _ _ _ _ _ _ _ _ _ _ w2 f2.gw rfl rfl hz) as e w3 ⟨he, hb3⟩
    subst he
    have f3 := (f2.next hb3).alloc (.cells (cells 1 (wrap64 (a.tdiv b)) E0).toArray 28)
    have v3 := cells_new w3 1 (wrap64 (a.tdiv b)) E0 28
    go_wp2_with fail
    have st : St w w3.heap.size 1 (wrap64 (a.tdiv b)) E0 w3.heap.size 1 (wrap64 (a.tdiv b)) E0 w3.heap.size 1 (wrap64 (a.tdiv b)) E0 w3.heap.size 1 (wrap64 (a.tdiv b)) E0 _ := ⟨f3, v3, v3, v3, v3⟩
    have hf := fun (n : Int) (W : World) => field_k 1 n E0 W
    clear hb1 hb2 hb3 f2 f3 v3 al
    go_region_held3 (fun w' => Fit w w' ∧ (w'.cell? ⟨w3.heap.size, 0, none⟩ = some (.int .i64 (1)) ∧ w'.cell? ⟨w3.heap.size, 1, none⟩ = some (.int .i64 (wrap64 (a.tdiv b))) ∧ w'.cell? ⟨w3.heap.size, 2, none⟩ = some (.int .i64 0) ∧ w'.cell? ⟨w3.heap.size, 3, none⟩ = some (.bool false) ∧ w'.cell? ⟨w3.heap.size, 4, none⟩ = some (.string (E0)) ∧ w'.cell? ⟨w3.heap.size, 5, none⟩ = some (.string ⟨#[]⟩) ∧ w'.cell? ⟨w3.heap.size, 6, none⟩ = some (.int .i64 0) ∧ w'.cell? ⟨w3.heap.size, 7, none⟩ = some (.slice none 0 0) ∧ w'.cell? ⟨w3.heap.size, 8, none⟩ = some (.slice none 0 0) ∧ w'.cell? ⟨w3.heap.size, 9, none⟩ = some (.slice none 0 0)) ∧ (w'.cell? ⟨w3.heap.size, 0, none⟩ = some (.int .i64 (1)) ∧ w'.cell? ⟨w3.heap.size, 1, none⟩ = some (.int .i64 (wrap64 (a.tdiv b))) ∧ w'.cell? ⟨w3.heap.size, 2, none⟩ = some (.int .i64 0) ∧ w'.cell? ⟨w3.heap.size, 3, none⟩ = some (.bool false) ∧ w'.cell? ⟨w3.heap.size, 4, none⟩ = some (.string (E0)) ∧ w'.cell? ⟨w3.heap.size, 5, none⟩ = some (.string ⟨#[]⟩) ∧ w'.cell? ⟨w3.heap.size, 6, none⟩ = some (.int .i64 0) ∧ w'.cell? ⟨w3.heap.size, 7, none⟩ = some (.slice none 0 0) ∧ w'.cell? ⟨w3.heap.size, 8, none⟩ = some (.slice none 0 0) ∧ w'.cell? ⟨w3.heap.size, 9, none⟩ = some (.slice none 0 0)) ∧ (w'.cell? ⟨w3.heap.size, 0, none⟩ = some (.int .i64 (1)) ∧ w'.cell? ⟨w3.heap.size, 1, none⟩ = some (.int .i64 (wrap64 (a.tdiv b))) ∧ w'.cell? ⟨w3.heap.size, 2, none⟩ = some (.int .i64 0) ∧ w'.cell? ⟨w3.heap.size, 3, none⟩ = some (.bool false) ∧ w'.cell? ⟨w3.heap.size, 4, none⟩ = some (.string (E0)) ∧ w'.cell? ⟨w3.heap.size, 5, none⟩ = some (.string ⟨#[]⟩) ∧ w'.cell? ⟨w3.heap.size, 6, none⟩ = some (.int .i64 0) ∧ w'.cell? ⟨w3.heap.size, 7, none⟩ = some (.slice none 0 0) ∧ w'.cell? ⟨w3.heap.size, 8, none⟩ = some (.slice none 0 0) ∧ w'.cell? ⟨w3.heap.size, 9, none⟩ = some (.slice none 0 0)) ∧ (w'.cell? ⟨w3.heap.size, 0, none⟩ = some (.int .i64 (1)) ∧ w'.cell? ⟨w3.heap.size, 1, none⟩ = some (.int .i64 (wrap64 (a.tdiv b))) ∧ w'.cell? ⟨w3.heap.size, 2, none⟩ = some (.int .i64 0) ∧ w'.cell? ⟨w3.heap.size, 3, none⟩ = some (.bool false) ∧ w'.cell? ⟨w3.heap.size, 4, none⟩ = some (.string (E0)) ∧ w'.cell? ⟨w3.heap.size, 5, none⟩ = some (.string ⟨#[]⟩) ∧ w'.cell? ⟨w3.heap.size, 6, none⟩ = some (.int .i64 0) ∧ w'.cell? ⟨w3.heap.size, 7, none⟩ = some (.slice none 0 0) ∧ w'.cell? ⟨w3.heap.size, 8, none⟩ = some (.slice none 0 0) ∧ w'.cell? ⟨w3.heap.size, 9, none⟩ = some (.slice none 0 0))) (first | exact (St.next (by with_reducible assumption) (by assumption) : @St w (w3.heap.size) (1) (wrap64 (a.tdiv b)) (E0) (w3.heap.size) (1) (wrap64 (a.tdiv b)) (E0) (w3.heap.size) (1) (wrap64 (a.tdiv b)) (E0) (w3.heap.size) (1) (wrap64 (a.tdiv b)) (E0) _) | exact (St.drew (by assumption) : @St w (w3.heap.size) (1) (wrap64 (a.tdiv b)) (E0) (w3.heap.size) (1) (wrap64 (a.tdiv b)) (E0) (w3.heap.size) (1) (wrap64 (a.tdiv b)) (E0) (w3.heap.size) (1) (wrap64 (a.tdiv b)) (E0) _))
      (first
        | (go_at_call 21; refine (two_ar _ _ _ (by decide) _ ?_).mono ?_; (exact Fit.gw (w := w) (And.left (by assumption))); rintro e w' ⟨rfl, hb⟩)
        | (go_at_call 15; refine (int_c _ _).mono ?_; rintro e w' ⟨rfl, hb⟩))
    have n1 : wrap64 (-r) = -r := wrap_in _ (by rcases Int.lt_or_gt_of_ne hz with h | h; have := r4 h; omega; have := r3 h; omega) (by rcases Int.lt_or_gt_of_ne hz with h | h; have := r4 h; omega; have := r3 h; omega)
    have n2 : IntKind.i64.wrap (-r) = -r := (wrap_is _).trans n1
    clear st
    have hF : Fit w _ := And.left (by assumption)
    rcases Int.lt_or_gt_of_ne hz with hs | hs
    · have e1 : decide (b < 0) = true := decide_eq_true hs
      obtain ⟨q1, q2⟩ := r4 hs
      have e2 : decide (b < r) = true := decide_eq_true q2
      have e3 : decide (b < -r) = true := decide_eq_true (by omega)
      have hs' : r < 0 ∨ r = 0 ∨ 0 < r := by omega
      rcases hs' with h | h | h
      · have d1 : decide (r < 0) = true := decide_eq_true (by omega)
        have d3 : decide (0 < r) = false := decide_eq_false (by omega)
        have d5 : decide (r ≤ 0) = true := decide_eq_true (by omega)
        have d2 : decide (0 ≤ a) = false := decide_eq_false (by omega)
        go_wp2_with fail
        go_call (awake_c _ hF.gw) as e w9 ⟨he, hb9⟩
        subst he
        go_wp2
        go_returns
        exact ⟨rfl, (hF.next hb9).bel⟩
      · have d1 : decide (r < 0) = false := decide_eq_false (by omega)
        have d3 : decide (0 < r) = false := decide_eq_false (by omega)
        have d5 : decide (r ≤ 0) = true := decide_eq_true (by omega)
        go_wp2_with fail
        go_call (awake_c _ hF.gw) as e w9 ⟨he, hb9⟩
        subst he
        go_wp2
        go_returns
        exact ⟨rfl, (hF.next hb9).bel⟩
      · have d1 : decide (r < 0) = false := decide_eq_false (by omega)
        have d3 : decide (0 < r) = true := decide_eq_true (by omega)
        have d5 : decide (r ≤ 0) = false := decide_eq_false (by omega)
        have d2 : decide (a ≤ 0) = false := decide_eq_false (by omega)
        go_wp2_with fail
        go_call (awake_c _ hF.gw) as e w9 ⟨he, hb9⟩
        subst he
        go_wp2
        go_returns
        exact ⟨rfl, (hF.next hb9).bel⟩
    · have e1 : decide (b < 0) = false := decide_eq_false (by omega)
      obtain ⟨q1, q2⟩ := r3 hs
      have e2 : decide (r < b) = true := decide_eq_true q1
      have e3 : decide (-r < b) = true := decide_eq_true (by omega)
      have hs' : r < 0 ∨ r = 0 ∨ 0 < r := by omega
      rcases hs' with h | h | h
      · have d1 : decide (r < 0) = true := decide_eq_true (by omega)
        have d3 : decide (0 < r) = false := decide_eq_false (by omega)
        have d5 : decide (r ≤ 0) = true := decide_eq_true (by omega)
        have d2 : decide (0 ≤ a) = false := decide_eq_false (by omega)
        go_wp2_with fail
        go_call (awake_c _ hF.gw) as e w9 ⟨he, hb9⟩
        subst he
        go_wp2
        go_returns
        exact ⟨rfl, (hF.next hb9).bel⟩
      · have d1 : decide (r < 0) = false := decide_eq_false (by omega)
        have d3 : decide (0 < r) = false := decide_eq_false (by omega)
        have d5 : decide (r ≤ 0) = true := decide_eq_true (by omega)
        go_wp2_with fail
        go_call (awake_c _ hF.gw) as e w9 ⟨he, hb9⟩
        subst he
        go_wp2
        go_returns
        exact ⟨rfl, (hF.next hb9).bel⟩
      · have d1 : decide (r < 0) = false := decide_eq_false (by omega)
        have d3 : decide (0 < r) = true := decide_eq_true (by omega)
        have d5 : decide (r ≤ 0) = false := decide_eq_false (by omega)
        have d2 : decide (a ≤ 0) = false := decide_eq_false (by omega)
        go_wp2_with fail
        go_call (awake_c _ hF.gw) as e w9 ⟨he, hb9⟩
        subst he
        go_wp2
        go_returns
        exact ⟨rfl, (hF.next hb9).bel⟩
end Go.Proofs.YtophddbbeechkaaDoor.W8

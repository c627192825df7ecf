/-
  prec: what the reference's dyn, alike and Less answer is what the program's functions answer.
-/
import Derived.Test.YtnfnhjhnfdkinaaPU4
import Derived.Test.YtnfnhjhnfdkinaaPPrecTellsx6
import Derived.Test.YtnfnhjhnfdkinaaPPrecTellsx7
namespace Go.Proofs.Ytnfnhjhnfdkinaa.PPrecTells
open Go.RowKit Go.Proofs.YtnfnhjhnfdkinaaW.Mine Go.Proofs.YtnfnhjhnfdkinaaW.PrintWords Go.Proofs.YtnfnhjhnfdkinaaW.PrintLast Go.Proofs.YtnfnhjhnfdkinaaW.PrintMore
set_option linter.unusedVariables false
set_option linter.unusedSimpArgs false
theorem rdyn_f (x : S25) (hb : Bd x) : Ev (fun k => limbeckref08_dyn.f k x.f0 x.f1 x.f2 x.f3 x.f4) (same x dynTy) := by
  unfold limbeckref08_dyn.f
  exact Ev.bindc rfl (Ev.bind (types_f _ x (Nat.lt_succ_self _) hb dynTy) (Ev.rets rfl))
theorem ralike_f (x y : S25) (hb : Bd x) : Ev (fun k => limbeckref08_alike.f k x.f0 x.f1 x.f2 x.f3 x.f4 y.f0 y.f1 y.f2 y.f3 y.f4) (likeTy x y) := by
  unfold limbeckref08_alike.f likeTy
  by_cases e0 : x.f0 = y.f0
  · rw [decide_eq_true e0, Bool.true_and]
    refine Ev.pos e0 ?_
    by_cases e1 : x.f1 = y.f1
    · rw [decide_eq_true e1, Bool.true_and]
      refine Ev.pos e1 ?_
      by_cases e2 : x.f2.toList = y.f2.toList
      · rw [show eqText x.f2 y.f2 = true by unfold eqText; rw [e2]; simp, Bool.true_and]
        refine Ev.pos e2 (Ev.bind (labels_f x.f3 y.f3 hb.l3) ?_)
        cases e3 : eqTexts x.f3 y.f3 with
        | true =>
          rw [Bool.true_and]
          refine Ev.pos rfl (Ev.rets ?_)
          by_cases e4 : x.f4.length = y.f4.length
          · rw [decide_eq_true e4, e4]; simp
          · rw [decide_eq_false e4, beq_eq_false_iff_ne]; omega
        | false => rw [Bool.false_and]; exact Ev.neg (by decide) (Ev.rets rfl)
      · rw [show eqText x.f2 y.f2 = false by unfold eqText; exact beq_eq_false_iff_ne.mpr e2, Bool.false_and]
        exact Ev.neg e2 (Ev.rets rfl)
    · rw [decide_eq_false e1, Bool.false_and]; exact Ev.neg e1 (Ev.rets rfl)
  · rw [decide_eq_false e0, Bool.false_and]; exact Ev.neg e0 (Ev.rets rfl)
abbrev evLess (x y : S25) : Prop := Ev (fun k => limbeckref08_Less.f k x.f0 x.f1 x.f2 x.f3 x.f4 y.f0 y.f1 y.f2 y.f3 y.f4) (less x y)
theorem rless_l (x y : S25) (hn : x.f4.length = y.f4.length) (hb : x.f4.length ≤ 140737488351232) (hs : ∀ u, u ∈ x.f4 → ∀ v, v ∈ y.f4 → evLess u v) (d i : Nat) (hd : d + i = x.f4.length) :
    Ev (fun k => limbeckref08_Less.l0 k i x.f0 x.f1 x.f2 x.f3 x.f4 y.f0 y.f1 y.f2 y.f3 y.f4) (allTwo less (x.f4.drop i) (y.f4.drop i)) := by
  induction d generalizing i with
  | zero =>
    rw [two_end _ _ _ _ (by omega) (by omega)]
    exact Ev.step (fun _ => rfl) (Ev.neg (by omega) (Ev.step (f := fun _ => some true) (fun _ => rfl) (Ev.rets rfl)))
  | succ d ih =>
    rw [two_step _ _ _ i (by omega) (by omega)]
    refine Ev.step (fun _ => rfl) (Ev.pos (by omega) ?_)
    rw [decide_eq_true (show (i : Int) < (y.f4.length : Int) by omega)]
    refine Ev.step (fun _ => rfl) (Ev.pos (by omega) (Ev.pos (by omega) ?_))
    rw [rdT_at x.f4 i (by omega), rdT_at y.f4 i (by omega), wrap_up (by omega)]
    refine Ev.bind (hs _ (List.getElem_mem (by omega)) _ (List.getElem_mem (by omega))) ?_
    cases e : less x.f4[i] y.f4[i] with
    | true => rw [Bool.true_and]; exact Ev.pos rfl (ih (i + 1) (by omega))
    | false => rw [Bool.false_and]; exact Ev.neg (by decide) (Ev.rets rfl)
theorem rless_f : ∀ (n : Nat) (x : S25), SizeOf.sizeOf x < n → Bd x → ∀ y, Bd y → evLess x y
  | 0, _, h, _, _, _ => absurd h (Nat.not_lt_zero _)
  | n + 1, x, h, hb, y, hy => by
    unfold evLess
    rw [less_eq]
    refine Ev.step (fun _ => rfl) (Ev.bind (rdyn_f y hy) ?_)
    cases e0 : same y dynTy with
    | true => rw [Bool.true_or]; exact Ev.pos rfl (Ev.rets rfl)
    | false =>
      rw [Bool.false_or]
      refine Ev.neg (by decide) (Ev.bind (ralike_f x y hb) ?_)
      cases e1 : likeTy x y with
      | true =>
        rw [Bool.true_and]
        have e4 : x.f4.length = y.f4.length := by
          simp only [likeTy, Bool.and_eq_true, decide_eq_true_eq] at e1
          exact e1.2.2.2.2
        exact Ev.pos rfl (rless_l x y e4 hb.l4 (fun u hu v hv => rless_f n u (by have := size_args x u hu; omega) (hb.all u hu) v (hy.all v hv)) x.f4.length 0 (by omega))
      | false => rw [Bool.false_and]; exact Ev.neg (by decide) (Ev.rets rfl)
end Go.Proofs.Ytnfnhjhnfdkinaa.PPrecTells

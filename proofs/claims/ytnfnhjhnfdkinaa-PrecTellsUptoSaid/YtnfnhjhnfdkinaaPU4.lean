/-
  prec: the reference's sameness is the plain one; less and nodes.
-/
import Derived.Test.YtnfnhjhnfdkinaaPU3
import Derived.Test.YtnfnhjhnfdkinaaPPrecTellsx3
namespace Go.Proofs.Ytnfnhjhnfdkinaa.PPrecTells
open Go.RowKit Go.Proofs.YtnfnhjhnfdkinaaW.Mine Go.Proofs.YtnfnhjhnfdkinaaW.PrintWords Go.Proofs.YtnfnhjhnfdkinaaW.PrintLast Go.Proofs.YtnfnhjhnfdkinaaW.PrintMore
set_option linter.unusedVariables false
set_option linter.unusedSimpArgs false
theorem two_step {α β : Type} (p : α → β → Bool) (l : List α) (m : List β) (i : Nat) (h : i < l.length) (h' : i < m.length) : allTwo p (l.drop i) (m.drop i) = (p l[i] m[i] && allTwo p (l.drop (i + 1)) (m.drop (i + 1))) := by
  rw [List.drop_eq_getElem_cons h, List.drop_eq_getElem_cons h']; rfl
theorem two_end {α β : Type} (p : α → β → Bool) (l : List α) (m : List β) (i : Nat) (h : l.length ≤ i) (h' : m.length ≤ i) : allTwo p (l.drop i) (m.drop i) = true := by
  rw [List.drop_eq_nil_of_le h, List.drop_eq_nil_of_le h']; rfl
theorem wrap_up {i : Nat} (h : i < 9223372036854775807) : wrap64 ((i : Int) + 1) = ((i + 1 : Nat) : Int) := by unfold wrap64; omega
theorem rdT_at (l : List S25) (i : Nat) (h : i < l.length) : rd_T25 l (i : Int) = l[i] := getD_at _ l i h
/-! labels -/
theorem labels_l (xs ys : List ByteArray) (hn : xs.length = ys.length) (hb : xs.length ≤ 140737488351232) (d i : Nat) (hd : d + i = xs.length) :
    Ev (fun k => limbeckref01_Same.l0 k xs ys i) (eqTexts (xs.drop i) (ys.drop i)) := by
  unfold eqTexts
  induction d generalizing i with
  | zero =>
    rw [two_end _ _ _ _ (by omega) (by omega)]
    exact Ev.step (fun _ => rfl) (Ev.neg (by omega) (Ev.step (f := fun _ => some true) (fun _ => rfl) (Ev.rets rfl)))
  | succ d ih =>
    rw [two_step _ _ _ i (by omega) (by omega)]
    refine Ev.step (fun _ => rfl) (Ev.pos (by omega) ?_)
    rw [decide_eq_true (show (i : Int) < (ys.length : Int) by omega)]
    refine Ev.step (fun _ => rfl) (Ev.pos (by omega) (Ev.pos (by omega) ?_))
    rw [rdOf_at _ xs i (by omega), rdOf_at _ ys i (by omega), wrap_up (by omega)]
    by_cases e : xs[i].toList = ys[i].toList
    · rw [show eqText xs[i] ys[i] = true by unfold eqText; rw [e]; simp, Bool.true_and]
      exact Ev.pos e (ih (i + 1) (by omega))
    · rw [show eqText xs[i] ys[i] = false by unfold eqText; exact beq_eq_false_iff_ne.mpr e, Bool.false_and]
      exact Ev.neg e (Ev.rets rfl)
theorem labels_f (xs ys : List ByteArray) (hb : xs.length ≤ 140737488351232) : Ev (fun k => limbeckref01_Same.f k xs ys) (eqTexts xs ys) := by
  unfold limbeckref01_Same.f
  by_cases h : xs.length = ys.length
  · exact Ev.pos (by omega) (labels_l xs ys h hb xs.length 0 (by omega))
  · rw [show eqTexts xs ys = false from allTwo_ne h]
    exact Ev.neg (by omega) (Ev.rets rfl)
/-- Lists as long as there may be, at each place. -/
inductive Bd : S25 → Prop
  | mk (x : S25) (h3 : x.f3.length ≤ 140737488351232) (h4 : x.f4.length ≤ 140737488351232) (hs : ∀ y, y ∈ x.f4 → Bd y) : Bd x
theorem Bd.l3 {x : S25} (h : Bd x) : x.f3.length ≤ 140737488351232 := by cases h; assumption
theorem Bd.l4 {x : S25} (h : Bd x) : x.f4.length ≤ 140737488351232 := by cases h; assumption
theorem Bd.all {x : S25} (h : Bd x) : ∀ y, y ∈ x.f4 → Bd y := by cases h; assumption
/-! types -/
abbrev evSame (x y : S25) : Prop := Ev (fun k => limbeckref04_Same.f k x.f0 x.f1 x.f2 x.f3 x.f4 y.f0 y.f1 y.f2 y.f3 y.f4) (same x y)
theorem types_l (x y : S25) (hn : x.f4.length = y.f4.length) (hb : x.f4.length ≤ 140737488351232) (hs : ∀ u, u ∈ x.f4 → ∀ v, evSame u v) (d i : Nat) (hd : d + i = x.f4.length) :
    Ev (fun k => limbeckref04_Same.l0 k i x.f0 x.f1 x.f2 x.f3 x.f4 y.f0 y.f1 y.f2 y.f3 y.f4) (allTwo same (x.f4.drop i) (y.f4.drop i)) := by
  induction d generalizing i with
  | zero =>
    rw [two_end _ _ _ _ (by omega) (by omega)]
    exact Ev.step (fun _ => rfl) (Ev.neg (by omega) (Ev.step (f := fun _ => some true) (fun _ => rfl) (Ev.rets rfl)))
  | succ d ih =>
    rw [two_step _ _ _ i (by omega) (by omega)]
    refine Ev.step (fun _ => rfl) (Ev.pos (by omega) ?_)
    rw [decide_eq_true (show (i : Int) < (y.f4.length : Int) by omega)]
    refine Ev.step (fun _ => rfl) (Ev.pos (by omega) (Ev.pos (by omega) ?_))
    rw [rdT_at x.f4 i (by omega), rdT_at y.f4 i (by omega), wrap_up (by omega)]
    refine Ev.bind (hs _ (List.getElem_mem (by omega)) y.f4[i]) ?_
    cases e : same x.f4[i] y.f4[i] with
    | true => rw [Bool.true_and]; exact Ev.pos rfl (ih (i + 1) (by omega))
    | false => rw [Bool.false_and]; exact Ev.neg (by decide) (Ev.rets rfl)
theorem types_f : ∀ (n : Nat) (x : S25), SizeOf.sizeOf x < n → Bd x → ∀ y, evSame x y
  | 0, _, h, _, _ => absurd h (Nat.not_lt_zero _)
  | n + 1, x, h, hb, y => by
    have ff : ∀ a0 a1 a2 a3 a4 b0 b1 b2 b3 b4, Ev (fun k => limbeckref04_Same.j0 k true a0 a1 a2 a3 a4 b0 b1 b2 b3 b4) false := fun a0 a1 a2 a3 a4 b0 b1 b2 b3 b4 => Ev.step (f := fun _ => some false) (fun _ => rfl) (Ev.rets rfl)
    unfold evSame
    rw [same_eq]
    refine Ev.step (fun _ => rfl) ?_
    by_cases e0 : x.f0 = y.f0
    · rw [decide_eq_true e0, Bool.true_and]
      refine Ev.pos e0 ?_
      by_cases e1 : x.f1 = y.f1
      · rw [decide_eq_true e1, Bool.true_and]
        refine Ev.pos e1 ?_
        by_cases e2 : x.f2.toList = y.f2.toList
        · rw [show eqText x.f2 y.f2 = true by unfold eqText; rw [e2]; simp, Bool.true_and]
          refine Ev.pos e2 (Ev.bind (labels_f x.f3 y.f3 hb.l3) ?_)
          cases e3 : eqTexts x.f3 y.f3 with
          | true =>
            rw [Bool.true_and]
            refine Ev.pos rfl ?_
            by_cases e4 : x.f4.length = y.f4.length
            · rw [show ((x.f4.length : Int) != (y.f4.length : Int)) = false by rw [e4]; simp]
              refine Ev.step (f := fun k => limbeckref04_Same.l0 k 0 x.f0 x.f1 x.f2 x.f3 x.f4 y.f0 y.f1 y.f2 y.f3 y.f4) (fun _ => rfl) ?_
              exact types_l x y e4 hb.l4 (fun u hu v => types_f n u (by have := size_args x u hu; omega) (hb.all u hu) v) x.f4.length 0 (by omega)
            · rw [show ((x.f4.length : Int) != (y.f4.length : Int)) = true by rw [bne_iff_ne]; omega, allTwo_ne e4]
              exact ff _ _ _ _ _ _ _ _ _ _
          | false => rw [Bool.false_and]; exact Ev.neg (by decide) (ff _ _ _ _ _ _ _ _ _ _)
        · rw [show eqText x.f2 y.f2 = false by unfold eqText; exact beq_eq_false_iff_ne.mpr e2, Bool.false_and]
          exact Ev.neg e2 (ff _ _ _ _ _ _ _ _ _ _)
      · rw [decide_eq_false e1, Bool.false_and]; exact Ev.neg e1 (ff _ _ _ _ _ _ _ _ _ _)
    · rw [decide_eq_false e0, Bool.false_and]; exact Ev.neg e0 (ff _ _ _ _ _ _ _ _ _ _)
mutual
theorem less_nodes : ∀ (x y : Ty), less x y = true → nodes y ≤ nodes x
  | ⟨a0, a1, a2, a3, a4⟩, y, h => by
    have hx : nodes ⟨a0, a1, a2, a3, a4⟩ = nodesAll a4 + 1 := nodes_eq _
    rcases (less_iff _ _).1 h with rfl | ⟨_, h4⟩
    · have : nodes dynTy = 1 := by rfl
      omega
    · have := lessAll_nodes a4 y.f4 h4
      rw [hx, nodes_eq y]
      omega
theorem lessAll_nodes : ∀ (l m : List Ty), lessAll l m = true → nodesAll m ≤ nodesAll l
  | [], [], _ => Nat.le_refl _
  | a :: l, b :: m, h => by
    simp only [lessAll, Bool.and_eq_true] at h
    have h1 := less_nodes a b h.1
    have h2 := lessAll_nodes l m h.2
    simp only [nodesAll]
    omega
  | [], _ :: _, h => by simp [lessAll] at h
  | _ :: _, [], h => by simp [lessAll] at h
end
theorem same_no {x y : Ty} (h : less x y = false) : same x y = false := by
  cases e : same x y with
  | false => rfl
  | true => rw [(same_iff x y).1 e, less_refl] at h; cases h
theorem same_no' {x y : Ty} (h : less y x = false) : same x y = false := by
  cases e : same x y with
  | false => rfl
  | true => rw [(same_iff x y).1 e, less_refl] at h; cases h
theorem same_yes {x y : Ty} (h : less x y = true) (k : less y x = true) : same x y = true := (same_iff x y).2 (less_anti x y h k)
end Go.Proofs.Ytnfnhjhnfdkinaa.PPrecTells

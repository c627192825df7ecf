/-
  ConvKeeps: texts of this claim, put together by a program of this session. No conditions beyond what each lemma says.
-/
import Derived.Test.YtnfnhjhnfdkinaazConvKeeps45
import Derived.Test.YtnfnhjhnfdkinaazConvKeeps46
import Derived.Test.YtnfnhjhnfdkinaazConvKeeps14
namespace Go.Proofs.Ytnfnhjhnfdkinaa.PConvBack
open Go.RowKit Go.Proofs.YtnfnhjhnfdkinaaW.Mine Go.Proofs.YtnfnhjhnfdkinaaW.PrintWords Go.Proofs.YtnfnhjhnfdkinaaW.PrintLast Go.Proofs.YtnfnhjhnfdkinaaW.PrintMore
set_option linter.unusedVariables false
set_option linter.unusedSimpArgs false
/-- Seals whose types are read. -/
structure Oks (l : List Se) : Prop where
  len : l.length * 184 ≤ 140737488351232
  rep : ∀ s, s ∈ l → Okt s.f0
  repw : ∀ s, s ∈ l → Okw s.f0
  up : ∀ s, s ∈ l → Okt s.f1
  upw : ∀ s, s ∈ l → Okw s.f1
theorem rdS_at (l : List Se) (i : Nat) (h : i < l.length) : rd_T86 l (i : Int) = l[i] := getD_at _ l i h
theorem okt_right {x : Ty} (o : Okt x) (ow : Okw x) : Tells (fun k => limbeckref04_Right.f k x.f0 x.f1 x.f2 x.f3 x.f4) (fun b => b = true → Rp x) := right_told _ x (Nat.lt_succ_self _) o ow
theorem okt_ahead {x : Ty} (o : Okt x) (c : Int) : Tells (fun k => limbeckref28_ahead.f k x.f0 x.f1 x.f2 x.f3 x.f4 c) (fun _ => True) := ahead_told c _ x (Nat.lt_succ_self _) o
theorem okt_much {x : Ty} (o : Okt x) : Tells (fun k => limbecklaw04_Much.f k x.f0 x.f1 x.f2 x.f3 x.f4) (fun _ => True) := by
  obtain ⟨r, h⟩ := much_told _ x (Nat.lt_succ_self _) o
  exact ⟨r, h, trivial⟩
theorem few_j1 (l : List Se) (n i : Int) : Tells (fun k => limbecklaw28_Few.j1 k l n i false) (fun _ => True) := by
  by_cases h : (l.length : Int) > 12
  · refine ⟨5000, ⟨1, fun k hk => ?_⟩, trivial⟩
    obtain ⟨m, rfl⟩ : ∃ m, k = m + 1 := ⟨k - 1, by omega⟩
    simp only [limbecklaw28_Few.j1, if_pos h, Bool.false_eq_true, if_false]
  · refine ⟨n, ⟨1, fun k hk => ?_⟩, trivial⟩
    obtain ⟨m, rfl⟩ : ∃ m, k = m + 1 := ⟨k - 1, by omega⟩
    simp only [limbecklaw28_Few.j1, if_neg h, Bool.false_eq_true, if_false]
theorem few_l0 (l : List Se) (o : Oks l) : ∀ (d i : Nat), d + i = l.length → ∀ n, Tells (fun k => limbecklaw28_Few.l0 k l n i) (fun _ => True)
  | 0, i, h, n => Tells.step (fun _ => rfl) (Tells.ite (fun h => by omega) (fun _ => few_j1 l n i))
  | d + 1, i, h, n => by
    have ih := few_l0 l o d (i + 1) (by omega)
    have hi : i < l.length := by omega
    have hl := o.len
    have hm := List.getElem_mem hi
    have hw : wrap64 ((i : Int) + 1) = ((i + 1 : Nat) : Int) := by rw [wrap_in (by omega) (by omega)]; rfl
    refine Tells.step (fun _ => rfl) (Tells.yes (by omega) (Tells.step (fun _ => rfl) (Tells.ite (fun _ => Tells.yes (by omega) (Tells.yes (by omega) ?_)) (fun _ => Tells.ite (fun _ => Tells.ret trivial) (fun _ => Tells.ret trivial)))))
    rw [rdS_at l i hi]
    refine Tells.bind (okt_much (o.rep _ hm)) (fun _ _ => Tells.bind (okt_much (o.up _ hm)) (fun _ _ => ?_))
    rw [hw]
    exact ih _
theorem few_told (l : List Se) (o : Oks l) : Tells (fun k => limbecklaw28_Few.f k l) (fun _ => True) := by
  unfold limbecklaw28_Few.f
  exact few_l0 l o l.length 0 (by omega) 0
theorem reps_l0 (l : List Se) (hl : l.length * 184 ≤ 140737488351232) (a : Nat) : ∀ (d i : Nat), a ≤ i → d + i = l.length → Ev (fun k => limbecklaw31_reps.l0 k l ((l.drop a).take (i - a) |>.map (fun s => s.f0)) i) (repsL l a)
  | 0, i, ha, h => by
    refine Ev.step (fun _ => rfl) (Ev.neg (by omega) (Ev.rets ?_))
    rw [List.take_of_length_le (by rw [List.length_drop]; omega)]
    rfl
  | d + 1, i, ha, h => by
    have ih := reps_l0 l hl a d (i + 1) (by omega) (by omega)
    have hi : i < l.length := by omega
    have hw : wrap64 ((i : Int) + 1) = ((i + 1 : Nat) : Int) := by rw [wrap_in (by omega) (by omega)]; rfl
    refine Ev.step (fun _ => rfl) (Ev.pos (by omega) (Ev.pos (by omega) (Ev.pos ?_ ?_)))
    · rw [List.length_map, List.length_take, List.length_drop]; omega
    · rw [hw, rdS_at l i hi]
      have e : (((l.drop a).take (i + 1 - a)).map (fun s => s.f0) : List Ty) = ((l.drop a).take (i - a)).map (fun s => s.f0) ++ [(⟨l[i].f0.f0, l[i].f0.f1, l[i].f0.f2, l[i].f0.f3, l[i].f0.f4⟩ : Ty)] := by
        have hd : i - a < (l.drop a).length := by rw [List.length_drop]; omega
        rw [show i + 1 - a = i - a + 1 by omega, List.take_add_one, List.getElem?_eq_getElem hd, List.map_append]
        congr 1
        simp only [List.getElem_drop, Option.toList_some, List.map_cons, List.map_nil]
        have ee : a + (i - a) = i := by omega
        simp only [ee]
        generalize l[i].f0 = x
        cases x
        rfl
      rw [e] at ih
      exact ih
theorem reps_told (l : List Se) (hl : l.length * 184 ≤ 140737488351232) (a : Nat) (ha : a ≤ l.length) : ∃ k, limbecklaw31_reps.f k l (a : Int) = some (repsL l a) := by
  have h := reps_l0 l hl a (l.length - a) a (Nat.le_refl _) (by omega)
  rw [Nat.sub_self, List.take_zero, List.map_nil] at h
  exact h.rounds
end Go.Proofs.Ytnfnhjhnfdkinaa.PConvBack

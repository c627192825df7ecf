/-
  Subst: texts of this claim, put together by a program of this session. No conditions beyond what each lemma says.
-/
import Derived.Test.YtnfnhjhnfdkinaazSubst26
import Derived.Test.YtnfnhjhnfdkinaazSubst28
namespace Go.Proofs.Ytnfnhjhnfdkinaa.PSubstPuts
open Go.RowKit Go.Proofs.YtnfnhjhnfdkinaaW.Mine Go.Proofs.YtnfnhjhnfdkinaaW.PrintWords Go.Proofs.YtnfnhjhnfdkinaaW.PrintLast Go.Proofs.YtnfnhjhnfdkinaaW.PrintMore
set_option linter.unusedVariables false
set_option linter.unusedSimpArgs false
theorem find_l0 (m : List Bi) (s : ByteArray) (hl : m.length ≤ 140737488351232) (d i : Nat) (hd : d + i = m.length) (hn : ∀ j (hj : j < m.length), j < i → eqText m[j].f0 s = false) : Ev (fun k => limbeckref07_find.l0 k m s i) (bix m s) := by
  induction d generalizing i with
  | zero => exact Ev.step (fun _ => rfl) (Ev.neg (by omega) (Ev.rets (bix_none (fun j hj => hn j hj (by omega))).symm))
  | succ d ih =>
    have hi : i < m.length := by omega
    by_cases e : ((rd_T43 m i).f0).toList = s.toList
    · refine Ev.step (fun _ => rfl) (Ev.pos (by omega) (Ev.pos (by omega) (Ev.pos e (Ev.rets ?_))))
      exact (bix_at hi (by unfold eqText; rw [rdB_at m i hi] at e; rw [e]; simp) hn).symm
    · refine Ev.step (fun _ => rfl) (Ev.pos (by omega) (Ev.pos (by omega) (Ev.neg e ?_)))
      rw [wrap_ok (show -9223372036854775808 ≤ (i : Int) + 1 by omega) (by omega)]
      refine ih (i + 1) (by omega) (fun j hj hji => ?_)
      rcases Nat.lt_succ_iff_lt_or_eq.1 hji with h | rfl
      · exact hn j hj h
      · unfold eqText; rw [rdB_at m j hj] at e; simp only [beq_eq_false_iff_ne, ne_eq]; exact e
theorem find_f (m : List Bi) (s : ByteArray) (hl : m.length ≤ 140737488351232) : Ev (fun k => limbeckref07_find.f k m s) (bix m s) := find_l0 m s hl m.length 0 (by omega) (fun _ _ h => absurd h (Nat.not_lt_zero _))
def Plains (m : List Bi) (t u : Ty) : Prop := Ev (fun k => limbeckref07_Plain.f k t.f0 t.f1 t.f2 t.f3 t.f4 m) (u.f0, u.f1, u.f2, u.f3, u.f4)
theorem plain_l0 (m : List Bi) (t : Ty) (hl : t.f4.length * 80 ≤ 140737488351232) (hs : ∀ y, y ∈ t.f4 → Plains m y (plain (turnPut m) y)) (d i : Nat) (hd : d + i = t.f4.length) :
    Ev (fun k => limbeckref07_Plain.l0 k m i t.f0 t.f1 t.f2 t.f3 t.f4 t.f0 t.f1 t.f2 t.f3 ((t.f4.take i).map (plain (turnPut m)))) (t.f0, t.f1, t.f2, t.f3, t.f4.map (plain (turnPut m))) := by
  induction d generalizing i with
  | zero => exact Ev.step (fun _ => rfl) (Ev.neg (by omega) (Ev.rets (by rw [List.take_of_length_le (by omega)])))
  | succ d ih =>
    have hi : i < t.f4.length := by omega
    have hu := hs _ (rdT_mem t.f4 i hi)
    have e : (t.f4.take i).map (plain (turnPut m)) ++ [plain (turnPut m) (rd_T25 t.f4 i)] = (t.f4.take (i + 1)).map (plain (turnPut m)) := by
      rw [rdT_at t.f4 i hi, List.take_succ_eq_append_getElem hi, List.map_append]; rfl
    have hlen : ((t.f4.take i).map (plain (turnPut m))).length = i := by rw [List.length_map, List.length_take]; omega
    have ih := ih (i + 1) (by omega)
    rw [← e] at ih
    unfold Plains at hu
    generalize plain (turnPut m) (rd_T25 t.f4 i) = u at hu ih
    obtain ⟨u0, u1, u2, u3, u4⟩ := u
    have key : Ev (fun k => if ((t.f4.take i).map (plain (turnPut m))).length < 1759218604441 then (limbeckref07_Plain.l0 k m (wrap64 ((i : Int) + 1)) t.f0 t.f1 t.f2 t.f3 t.f4 t.f0 t.f1 t.f2 t.f3 ((t.f4.take i).map (plain (turnPut m)) ++ [(⟨u0, u1, u2, u3, u4⟩ : Ty)])) else none) (t.f0, t.f1, t.f2, t.f3, t.f4.map (plain (turnPut m))) := by
      refine Ev.pos (by omega) ?_
      rw [wrap_ok (show -9223372036854775808 ≤ (i : Int) + 1 by omega) (by omega)]
      exact ih
    exact Ev.step (fun _ => rfl) (Ev.pos (by omega) (Ev.pos (by omega) (Ev.bind hu key)))
theorem plain_f (m : List Bi) (hm : m.length ≤ 140737488351232) : ∀ (n : Nat) (t : Ty), SizeOf.sizeOf t < n → Okt t → Plains m t (plain (turnPut m) t)
  | 0, _, h, _ => absurd h (Nat.not_lt_zero _)
  | n + 1, t, h, o => by
    have hout := plain_l0 m t o.l80 (fun y hy => plain_f m hm n y (by have := size_args t y hy; omega) (o.all y hy)) t.f4.length 0 (by omega)
    have j0 : Ev (fun k => limbeckref07_Plain.j0 k m t.f0 t.f1 t.f2 t.f3 t.f4) (t.f0, t.f1, t.f2, t.f3, t.f4.map (plain (turnPut m))) :=
      Ev.step (f := fun k => limbeckref07_Plain.l0 k m 0 t.f0 t.f1 t.f2 t.f3 t.f4 t.f0 t.f1 t.f2 t.f3 ([] : List Ty)) (fun _ => rfl) hout
    unfold Plains
    rw [plain_eq]
    by_cases h6 : t.f0 = 6
    · have st : ∀ r, Ev (fun k => if bix m t.f2 ≥ 0 then (if 0 ≤ bix m t.f2 then (if bix m t.f2 < (m.length : Int) then (some ((rd_T43 m (bix m t.f2)).f1.f0, (rd_T43 m (bix m t.f2)).f1.f1, (rd_T43 m (bix m t.f2)).f1.f2, (rd_T43 m (bix m t.f2)).f1.f3, (rd_T43 m (bix m t.f2)).f1.f4)) else none) else none) else (limbeckref07_Plain.j0 k m t.f0 t.f1 t.f2 t.f3 t.f4)) r → Ev (fun k => limbeckref07_Plain.f k t.f0 t.f1 t.f2 t.f3 t.f4 m) r := fun r hr =>
        Ev.step (fun _ => rfl) (Ev.pos h6 (Ev.bind (find_f m t.f2 hm) hr))
      by_cases hi : bix m t.f2 ≥ 0
      · have e : turnPut m t = some (m.getD (bix m t.f2).toNat zB).f1 := if_pos ⟨h6, hi⟩
        rw [e]
        exact st _ (Ev.pos hi (Ev.pos hi (Ev.pos (bix_lt m t.f2) (Ev.rets rfl))))
      · have e : turnPut m t = none := if_neg (fun h => hi h.2)
        rw [e, plainAll_map]
        exact st _ (Ev.neg hi j0)
    · have e : turnPut m t = none := if_neg (fun h => h6 h.1)
      rw [e, plainAll_map]
      exact Ev.step (fun _ => rfl) (Ev.neg h6 j0)
/-- The reference's Put answers what the program's does. -/
theorem rput_f {m : List Bi} (hm : m.length ≤ 140737488351232) (om : ∀ b, b ∈ m → Okt b.f1) {t : Ty} (o : Okt t) (hb : (nodes (plain (turnPut m) t) : Int) ≤ 4611686018427387904) : Ev (fun k => limbeckref07_Put.f k t.f0 t.f1 t.f2 t.f3 t.f4 m) (tup (putO m t)) := by
  have e : putO m t = fitO (plain (turnPut m) t) := done_fits (turnPut m) t (by omega)
  rw [e]
  have ou := plain_okt _ (turnPut_okt om) t o
  have h1 := plain_f m hm _ t (Nat.lt_succ_self _) o
  have h2 := fitting_f ou hb
  unfold Plains at h1
  generalize plain (turnPut m) t = u at *
  obtain ⟨u0, u1, u2, u3, u4⟩ := u
  exact Ev.bind h1 (Ev.bind h2 (Ev.rets rfl))
theorem turnPut_nodes {m : List Bi} {B : Nat} (h : ∀ b, b ∈ m → nodes b.f1 ≤ B) (x u : Ty) (hu : turnPut m x = some u) : nodes u ≤ B := by
  unfold turnPut at hu
  split at hu
  · rename_i hc
    have hlt := bix_lt m x.f2
    have hi : (bix m x.f2).toNat < m.length := by omega
    rw [List.getD_eq_getElem?_getD, List.getElem?_eq_getElem hi] at hu
    injection hu with hu
    subst hu
    exact h _ (List.getElem_mem hi)
  · cases hu
theorem put_nodes {m : List Bi} (h : ∀ b, b ∈ m → nodes b.f1 ≤ 1048576) {t : Ty} (ht : nodes t ≤ 1048576) : (nodes (plain (turnPut m) t) : Int) ≤ 4611686018427387904 := by
  have h1 := plain_nodes (turnPut m) 1048576 (by omega) (turnPut_nodes h) t
  have h2 : nodes t * 1048576 ≤ 1048576 * 1048576 := Nat.mul_le_mul_right _ ht
  omega
/-- The reference's All. -/
def tupL (o : Option (List Ty)) : List Ty × Bool := (o.getD [], o.isSome)
theorem rall_l0 {m : List Bi} (hm : m.length ≤ 140737488351232) (om : ∀ b, b ∈ m → Okt b.f1) (bm : ∀ b, b ∈ m → nodes b.f1 ≤ 1048576) (l : List Ty) (hl : l.length * 80 ≤ 140737488351232) (ol : ∀ y, y ∈ l → Okt y) (bl : ∀ y, y ∈ l → nodes y ≤ 1048576) (d i : Nat) (hd : d + i = l.length) (acc : List Ty) (ha : allO m (l.take i) = some acc) (hla : acc.length = i) :
    Ev (fun k => limbeckref07_All.l0 k l m acc i) (tupL (allO m l)) := by
  induction d generalizing i acc with
  | zero =>
    rw [List.take_of_length_le (by omega)] at ha
    rw [ha]
    exact Ev.step (fun _ => rfl) (Ev.neg (by omega) (Ev.rets rfl))
  | succ d ih =>
    have hi : i < l.length := by omega
    have hp := rput_f hm om (ol _ (List.getElem_mem hi)) (put_nodes bm (bl _ (List.getElem_mem hi)))
    have hnn := allO_none m l i hi
    have hsn := allO_snoc m (l.take i) l[i]
    rw [← List.take_succ_eq_append_getElem hi, ha] at hsn
    rw [← rdT_at l i hi] at hp hnn hsn
    unfold tup at hp
    generalize putO m (rd_T25 l i) = o at hp hnn hsn
    cases o with
    | none =>
      rw [hnn rfl]
      exact Ev.step (fun _ => rfl) (Ev.pos (by omega) (Ev.pos (by omega) (Ev.bind hp (Ev.neg (by decide) (Ev.rets rfl)))))
    | some u =>
      have ih := ih (i + 1) (by omega) (acc ++ [u]) hsn (by rw [List.length_append, hla]; rfl)
      obtain ⟨u0, u1, u2, u3, u4⟩ := u
      have key : Ev (fun k => if acc.length < 1759218604441 then (limbeckref07_All.l0 k l m (acc ++ [(⟨u0, u1, u2, u3, u4⟩ : Ty)]) (wrap64 ((i : Int) + 1))) else none) (tupL (allO m l)) := by
        refine Ev.pos (by omega) ?_
        rw [wrap_ok (show -9223372036854775808 ≤ (i : Int) + 1 by omega) (by omega)]
        exact ih
      exact Ev.step (fun _ => rfl) (Ev.pos (by omega) (Ev.pos (by omega) (Ev.bind hp (Ev.pos rfl key))))
theorem rall_f {m : List Bi} (hm : m.length ≤ 140737488351232) (om : ∀ b, b ∈ m → Okt b.f1) (bm : ∀ b, b ∈ m → nodes b.f1 ≤ 1048576) (l : List Ty) (hl : l.length * 80 ≤ 140737488351232) (ol : ∀ y, y ∈ l → Okt y) (bl : ∀ y, y ∈ l → nodes y ≤ 1048576) : Ev (fun k => limbeckref07_All.f k l m) (tupL (allO m l)) :=
  rall_l0 hm om bm l hl ol bl l.length 0 (by omega) [] rfl rfl
/-- SameAll of a list with itself. -/
theorem sameall_l0 (l : List Ty) (hl : l.length ≤ 140737488351232) (ol : ∀ y, y ∈ l → Okt y) (d i : Nat) (hd : d + i = l.length) : Ev (fun k => limbeckref04_SameAll.l0 k l l i) true := by
  induction d generalizing i with
  | zero =>
    refine Ev.step (fun _ => rfl) (Ev.neg (by omega) ?_)
    exact Ev.step (f := fun _ => some true) (fun _ => rfl) (Ev.rets rfl)
  | succ d ih =>
    have hi : i < l.length := by omega
    have h1 := types_f _ (rd_T25 l i) (Nat.lt_succ_self _) (ol _ (rdT_mem l i hi)) (rd_T25 l i)
    unfold evSame at h1
    rw [same_refl] at h1
    refine Ev.step (fun _ => rfl) (Ev.pos (by omega) ?_)
    rw [decide_eq_true (show (i : Int) < (l.length : Int) by omega)]
    refine Ev.step (fun _ => rfl) (Ev.pos (by omega) (Ev.pos (by omega) (Ev.bind h1 ?_)))
    refine Ev.pos rfl ?_
    rw [wrap_ok (show -9223372036854775808 ≤ (i : Int) + 1 by omega) (by omega)]
    exact ih (i + 1) (by omega)
theorem sameall_f (l : List Ty) (hl : l.length ≤ 140737488351232) (ol : ∀ y, y ∈ l → Okt y) : Ev (fun k => limbeckref04_SameAll.f k l l) true := Ev.pos rfl (sameall_l0 l hl ol l.length 0 (by omega))
end Go.Proofs.Ytnfnhjhnfdkinaa.PSubstPuts

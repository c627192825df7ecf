/-
  ConvKeeps: texts of this claim, put together by a program of this session. No conditions beyond what each lemma says.
-/
import Derived.Test.YtnfnhjhnfdkinaazConvKeeps40
import Derived.Test.YtnfnhjhnfdkinaazConvKeeps22
import Derived.Test.YtnfnhjhnfdkinaazConvKeeps23
namespace Go.Proofs.Ytnfnhjhnfdkinaa.PConvBack
open Go.RowKit Go.Proofs.YtnfnhjhnfdkinaaW.Mine Go.Proofs.YtnfnhjhnfdkinaaW.PrintWords Go.Proofs.YtnfnhjhnfdkinaaW.PrintLast Go.Proofs.YtnfnhjhnfdkinaaW.PrintMore
set_option linter.unusedVariables false
set_option linter.unusedSimpArgs false
mutual
def plain (f : Ty → Option Ty) : Ty → Ty
  | ⟨a0, a1, a2, a3, a4⟩ => match f ⟨a0, a1, a2, a3, a4⟩ with
    | some u => u
    | none => ⟨a0, a1, a2, a3, plainAll f a4⟩
def plainAll (f : Ty → Option Ty) : List Ty → List Ty
  | [] => []
  | a :: l => plain f a :: plainAll f l
end
theorem plain_eq (f : Ty → Option Ty) (x : Ty) : plain f x = match f x with
    | some u => u
    | none => ⟨x.f0, x.f1, x.f2, x.f3, plainAll f x.f4⟩ := by
  cases x; simp only [plain]
theorem plainAll_cons (f : Ty → Option Ty) (a : Ty) (l : List Ty) : plainAll f (a :: l) = plain f a :: plainAll f l := by simp only [plainAll]
theorem plainAll_nil (f : Ty → Option Ty) : plainAll f [] = [] := by simp only [plainAll]
theorem plainAll_map (f : Ty → Option Ty) : ∀ l, plainAll f l = l.map (plain f)
  | [] => by rw [plainAll_nil]; rfl
  | a :: l => by rw [plainAll_cons, plainAll_map f l]; rfl
def turnOpen (may : Bool) (a : Int) (l : List Ty) (x : Ty) : Option Ty := if may = true ∧ x.f0 = 9 ∧ a ≤ x.f1 ∧ x.f1 - a < (l.length : Int) then some (l.getD (x.f1 - a).toNat z25) else none
theorem turnOpen_no {may : Bool} {a : Int} {l : List Ty} {x : Ty} (h : ¬ (may = true ∧ x.f0 = 9 ∧ a ≤ x.f1 ∧ x.f1 - a < (l.length : Int))) : turnOpen may a l x = none := if_neg h
theorem turnOpen_yes {a : Int} {l : List Ty} {x : Ty} {i : Nat} (h9 : x.f0 = 9) (hi : x.f1 = a + (i : Int)) (hl : i < l.length) : turnOpen true a l x = some l[i] := by
  unfold turnOpen
  rw [if_pos ⟨rfl, h9, by omega, by omega⟩, show (x.f1 - a).toNat = i by omega, List.getD_eq_getElem?_getD, List.getElem?_eq_getElem hl]; rfl
/-- As Sm, and each node's number within 64 bits. -/
inductive Sn : Ty → Prop
  | mk (x : Ty) (hl : x.f4.length * 80 ≤ 140737488351232) (hr : -9223372036854775808 ≤ x.f1 ∧ x.f1 ≤ 9223372036854775807) (hs : ∀ y, y ∈ x.f4 → Sn y) : Sn x
theorem Sn.len {x : Ty} (h : Sn x) : x.f4.length * 80 ≤ 140737488351232 := by cases h; assumption
theorem Sn.rng {x : Ty} (h : Sn x) : -9223372036854775808 ≤ x.f1 ∧ x.f1 ≤ 9223372036854775807 := by cases h; assumption
theorem Sn.all {x : Ty} (h : Sn x) : ∀ y, y ∈ x.f4 → Sn y := by cases h; assumption
def Openeds (a : Int) (l : List Ty) (t u : Ty) : Prop := Ev (fun k => limbeckref07_opened.f k t.f0 t.f1 t.f2 t.f3 t.f4 a l) (u.f0, u.f1, u.f2, u.f3, u.f4)
theorem opened_l0 (a : Int) (l : List Ty) (t : Ty) (hl : t.f4.length * 80 ≤ 140737488351232) (hs : ∀ y, y ∈ t.f4 → Openeds a l y (plain (turnOpen true a l) y)) (d i : Nat) (hd : d + i = t.f4.length) :
    Ev (fun k => limbeckref07_opened.l0 k a l i t.f0 t.f1 t.f2 t.f3 t.f4 t.f0 t.f1 t.f2 t.f3 ((t.f4.take i).map (plain (turnOpen true a l)))) (t.f0, t.f1, t.f2, t.f3, t.f4.map (plain (turnOpen true a l))) := by
  induction d generalizing i with
  | zero => exact Ev.step (fun _ => rfl) (Ev.neg (by omega) (Ev.rets (by rw [List.take_of_length_le (by omega)])))
  | succ d ih =>
    have hi : i < t.f4.length := by omega
    have hu := hs _ (rdT_mem t.f4 i hi)
    have e : (t.f4.take i).map (plain (turnOpen true a l)) ++ [plain (turnOpen true a l) (rd_T25 t.f4 i)] = (t.f4.take (i + 1)).map (plain (turnOpen true a l)) := by
      rw [rdT_at t.f4 i hi, List.take_succ_eq_append_getElem hi, List.map_append]; rfl
    have hlen : ((t.f4.take i).map (plain (turnOpen true a l))).length = i := by rw [List.length_map, List.length_take]; omega
    have ih := ih (i + 1) (by omega)
    rw [← e] at ih
    unfold Openeds at hu
    generalize plain (turnOpen true a l) (rd_T25 t.f4 i) = u at hu ih
    obtain ⟨u0, u1, u2, u3, u4⟩ := u
    have key : Ev (fun k => if ((t.f4.take i).map (plain (turnOpen true a l))).length < 1759218604441 then (limbeckref07_opened.l0 k a l (wrap64 ((i : Int) + 1)) t.f0 t.f1 t.f2 t.f3 t.f4 t.f0 t.f1 t.f2 t.f3 ((t.f4.take i).map (plain (turnOpen true a l)) ++ [(⟨u0, u1, u2, u3, u4⟩ : Ty)])) else none) (t.f0, t.f1, t.f2, t.f3, t.f4.map (plain (turnOpen true a l))) := by
      refine Ev.pos (by omega) ?_
      rw [wrap_ok (show -9223372036854775808 ≤ (i : Int) + 1 by omega) (by omega)]
      exact ih
    exact Ev.step (fun _ => rfl) (Ev.pos (by omega) (Ev.pos (by omega) (Ev.bind hu key)))
theorem opened_f (a : Int) (ha : 0 ≤ a) (ha1 : a ≤ 1073741824) (l : List Ty) (hl : l.length ≤ 140737488351232) : ∀ (n : Nat) (t : Ty), SizeOf.sizeOf t < n → Okt t → Sn t → Openeds a l t (plain (turnOpen true a l) t)
  | 0, _, h, _, _ => absurd h (Nat.not_lt_zero _)
  | n + 1, t, h, o, sn => by
    have hr := sn.rng
    have hout := opened_l0 a l t o.l80 (fun y hy => opened_f a ha ha1 l hl n y (by have := size_args t y hy; omega) (o.all y hy) (sn.all y hy)) t.f4.length 0 (by omega)
    have j0f : Ev (fun k => limbeckref07_opened.j0 k a l false t.f0 t.f1 t.f2 t.f3 t.f4) (t.f0, t.f1, t.f2, t.f3, t.f4.map (plain (turnOpen true a l))) :=
      Ev.step (f := fun k => limbeckref07_opened.l0 k a l 0 t.f0 t.f1 t.f2 t.f3 t.f4 t.f0 t.f1 t.f2 t.f3 ([] : List Ty)) (fun _ => rfl) hout
    unfold Openeds
    rw [plain_eq]
    by_cases h9 : t.f0 = 9
    · by_cases h1 : t.f1 ≥ a
      · have hw : wrap64 (t.f1 - a) = t.f1 - a := wrap_ok (by omega) (by omega)
        by_cases h2 : wrap64 (t.f1 - a) < (l.length : Int)
        · have e : turnOpen true a l t = some (l.getD (t.f1 - a).toNat z25) := if_pos ⟨rfl, h9, h1, by omega⟩
          rw [e]
          have j0t : Ev (fun k => limbeckref07_opened.j0 k a l true t.f0 t.f1 t.f2 t.f3 t.f4) ((rd_T25 l (wrap64 (t.f1 - a))).f0, (rd_T25 l (wrap64 (t.f1 - a))).f1, (rd_T25 l (wrap64 (t.f1 - a))).f2, (rd_T25 l (wrap64 (t.f1 - a))).f3, (rd_T25 l (wrap64 (t.f1 - a))).f4) :=
            Ev.step (f := fun k => if 0 ≤ (wrap64 (t.f1 - a)) then (if (wrap64 (t.f1 - a)) < (l.length : Int) then (some ((rd_T25 l (wrap64 (t.f1 - a))).f0, (rd_T25 l (wrap64 (t.f1 - a))).f1, (rd_T25 l (wrap64 (t.f1 - a))).f2, (rd_T25 l (wrap64 (t.f1 - a))).f3, (rd_T25 l (wrap64 (t.f1 - a))).f4)) else none) else none) (fun _ => rfl) (Ev.pos (by omega) (Ev.pos h2 (Ev.rets rfl)))
          rw [hw] at j0t
          exact Ev.step (fun _ => rfl) (Ev.pos h9 (Ev.pos h1 (by rw [decide_eq_true h2]; exact j0t)))
        · have e : turnOpen true a l t = none := turnOpen_no (fun h => by omega)
          rw [e, plainAll_map]
          exact Ev.step (fun _ => rfl) (Ev.pos h9 (Ev.pos h1 (by rw [decide_eq_false h2]; exact j0f)))
      · have e : turnOpen true a l t = none := turnOpen_no (fun h => by omega)
        rw [e, plainAll_map]
        exact Ev.step (fun _ => rfl) (Ev.pos h9 (Ev.neg h1 j0f))
    · have e : turnOpen true a l t = none := turnOpen_no (fun h => h9 h.2.1)
      rw [e, plainAll_map]
      exact Ev.step (fun _ => rfl) (Ev.neg h9 j0f)
mutual
theorem plain_id (f : Ty → Option Ty) (hf : ∀ x, f x = none) : ∀ t : Ty, plain f t = t
  | ⟨a0, a1, a2, a3, a4⟩ => by rw [plain_eq, hf]; simp only [plainAll_id f hf a4]
theorem plainAll_id (f : Ty → Option Ty) (hf : ∀ x, f x = none) : ∀ l : List Ty, plainAll f l = l
  | [] => plainAll_nil f
  | a :: l => by rw [plainAll_cons, plain_id f hf a, plainAll_id f hf l]
end
theorem turnOpen_okt {may : Bool} {a : Int} {l : List Ty} (hs : ∀ y, y ∈ l → Okt y) (x u : Ty) (h : turnOpen may a l x = some u) : Okt u := by
  unfold turnOpen at h
  split at h
  · rename_i hc
    have hi : (x.f1 - a).toNat < l.length := by omega
    rw [List.getD_eq_getElem?_getD, List.getElem?_eq_getElem hi] at h
    injection h with h
    subst h
    exact hs _ (List.getElem_mem hi)
  · cases h
end Go.Proofs.Ytnfnhjhnfdkinaa.PConvBack

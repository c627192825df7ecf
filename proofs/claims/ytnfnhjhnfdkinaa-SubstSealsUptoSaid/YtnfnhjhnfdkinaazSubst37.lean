/-
  Subst: texts of this claim, put together by a program of this session. No conditions beyond what each lemma says.
-/
import Derived.Test.YtnfnhjhnfdkinaazSubst26
import Derived.Test.YtnfnhjhnfdkinaazSubst36
namespace Go.Proofs.Ytnfnhjhnfdkinaa.PSubstPuts
open Go.RowKit Go.Proofs.YtnfnhjhnfdkinaaW.Mine Go.Proofs.YtnfnhjhnfdkinaaW.PrintWords Go.Proofs.YtnfnhjhnfdkinaaW.PrintLast Go.Proofs.YtnfnhjhnfdkinaaW.PrintMore
set_option linter.unusedVariables false
set_option linter.unusedSimpArgs false
theorem rdO_at (l : List ByteArray) (i : Nat) (hi : i < l.length) : rdOf ByteArray.empty l (i : Int) = l[i] := by unfold rdOf; rw [Int.toNat_natCast, List.getD_eq_getElem?_getD, List.getElem?_eq_getElem hi]; rfl
theorem place_l0 (l : List ByteArray) (s : ByteArray) (hl : l.length ≤ 140737488351232) (d i : Nat) (hd : d + i = l.length) (hn : ∀ j (hj : j < l.length), j < i → eqText l[j] s = false) : Ev (fun k => limbeckref01_Place.l0 k l s i) (pix l s) := by
  induction d generalizing i with
  | zero => exact Ev.step (fun _ => rfl) (Ev.neg (by omega) (Ev.rets (pix_none (fun j hj => hn j hj (by omega))).symm))
  | succ d ih =>
    have hi : i < l.length := by omega
    by_cases e : (rdOf ByteArray.empty l (i : Int)).toList = s.toList
    · refine Ev.step (fun _ => rfl) (Ev.pos (by omega) (Ev.pos (by omega) (Ev.pos e (Ev.rets ?_))))
      exact (pix_at hi (by unfold eqText; rw [rdO_at l i hi] at e; rw [e]; simp) hn).symm
    · refine Ev.step (fun _ => rfl) (Ev.pos (by omega) (Ev.pos (by omega) (Ev.neg e ?_)))
      rw [wrap_ok (show -9223372036854775808 ≤ (i : Int) + 1 by omega) (by omega)]
      refine ih (i + 1) (by omega) (fun j hj hji => ?_)
      rcases Nat.lt_succ_iff_lt_or_eq.1 hji with h | rfl
      · exact hn j hj h
      · unfold eqText; rw [rdO_at l j hj] at e; simp only [beq_eq_false_iff_ne, ne_eq]; exact e
theorem place_f (l : List ByteArray) (s : ByteArray) (hl : l.length ≤ 140737488351232) : Ev (fun k => limbeckref01_Place.f k l s) (pix l s) := place_l0 l s hl l.length 0 (by omega) (fun _ _ h => absurd h (Nat.not_lt_zero _))
def Sealeds (names : List ByteArray) (b : Int) (t u : Ty) : Prop := Ev (fun k => limbeckref07_sealed.f k t.f0 t.f1 t.f2 t.f3 t.f4 names b) (u.f0, u.f1, u.f2, u.f3, u.f4)
theorem sealed_l0 (names : List ByteArray) (b : Int) (t : Ty) (hl : t.f4.length * 80 ≤ 140737488351232) (hs : ∀ y, y ∈ t.f4 → Sealeds names b y (sealed names b y)) (d i : Nat) (hd : d + i = t.f4.length) :
    Ev (fun k => limbeckref07_sealed.l0 k names b i t.f0 t.f1 t.f2 t.f3 t.f4 t.f0 t.f1 t.f2 t.f3 ((t.f4.take i).map (sealed names b))) (t.f0, t.f1, t.f2, t.f3, t.f4.map (sealed names b)) := by
  induction d generalizing i with
  | zero => exact Ev.step (fun _ => rfl) (Ev.neg (by omega) (Ev.rets (by rw [List.take_of_length_le (by omega)])))
  | succ d ih =>
    have hi : i < t.f4.length := by omega
    have hu := hs _ (rdT_mem t.f4 i hi)
    have e : (t.f4.take i).map (sealed names b) ++ [sealed names b (rd_T25 t.f4 i)] = (t.f4.take (i + 1)).map (sealed names b) := by
      rw [rdT_at t.f4 i hi, List.take_succ_eq_append_getElem hi, List.map_append]; rfl
    have hlen : ((t.f4.take i).map (sealed names b)).length = i := by rw [List.length_map, List.length_take]; omega
    have ih := ih (i + 1) (by omega)
    rw [← e] at ih
    unfold Sealeds at hu
    generalize sealed names b (rd_T25 t.f4 i) = u at hu ih
    obtain ⟨u0, u1, u2, u3, u4⟩ := u
    have key : Ev (fun k => if ((t.f4.take i).map (sealed names b)).length < 1759218604441 then (limbeckref07_sealed.l0 k names b (wrap64 ((i : Int) + 1)) t.f0 t.f1 t.f2 t.f3 t.f4 t.f0 t.f1 t.f2 t.f3 ((t.f4.take i).map (sealed names b) ++ [(⟨u0, u1, u2, u3, u4⟩ : Ty)])) else none) (t.f0, t.f1, t.f2, t.f3, t.f4.map (sealed names b)) := by
      refine Ev.pos (by omega) ?_
      rw [wrap_ok (show -9223372036854775808 ≤ (i : Int) + 1 by omega) (by omega)]
      exact ih
    exact Ev.step (fun _ => rfl) (Ev.pos (by omega) (Ev.pos (by omega) (Ev.bind hu key)))
theorem sealed_f (names : List ByteArray) (b : Int) (hn : names.length ≤ 140737488351232) : ∀ (n : Nat) (t : Ty), SizeOf.sizeOf t < n → Okt t → Sealeds names b t (sealed names b t)
  | 0, _, h, _ => absurd h (Nat.not_lt_zero _)
  | n + 1, t, h, o => by
    have hout := sealed_l0 names b t o.l80 (fun y hy => sealed_f names b hn n y (by have := size_args t y hy; omega) (o.all y hy)) t.f4.length 0 (by omega)
    have j0 : Ev (fun k => limbeckref07_sealed.j0 k names b t.f0 t.f1 t.f2 t.f3 t.f4) (t.f0, t.f1, t.f2, t.f3, t.f4.map (sealed names b)) :=
      Ev.step (f := fun k => limbeckref07_sealed.l0 k names b 0 t.f0 t.f1 t.f2 t.f3 t.f4 t.f0 t.f1 t.f2 t.f3 ([] : List Ty)) (fun _ => rfl) hout
    unfold Sealeds
    rw [sealed_eq, sealedAll_map]
    by_cases h6 : t.f0 = 6
    · have st : ∀ r, Ev (fun k => if pix names t.f2 ≥ 0 then ((limbeckref04_Seal.f (wrap64 (b + pix names t.f2))).bind fun bt => (some (bt.1, bt.2.1, bt.2.2.1, bt.2.2.2.1, bt.2.2.2.2))) else (limbeckref07_sealed.j0 k names b t.f0 t.f1 t.f2 t.f3 t.f4)) r → Ev (fun k => limbeckref07_sealed.f k t.f0 t.f1 t.f2 t.f3 t.f4 names b) r := fun r hr =>
        Ev.step (fun _ => rfl) (Ev.pos h6 (Ev.bind (place_f names t.f2 hn) hr))
      by_cases hi : pix names t.f2 ≥ 0
      · rw [if_pos ⟨h6, hi⟩]
        exact st _ (Ev.pos hi (Ev.bindc (a := (9, wrap64 (b + pix names t.f2), (⟨#[]⟩ : ByteArray), ([] : List ByteArray), ([] : List Ty))) rfl (Ev.rets rfl)))
      · rw [if_neg (fun h => hi h.2)]
        exact st _ (Ev.neg hi j0)
    · rw [if_neg (fun h => h6 h.1)]
      exact Ev.step (fun _ => rfl) (Ev.neg h6 j0)
theorem rseal_f (names : List ByteArray) (b : Int) (hn : names.length ≤ 140737488351232) {t : Ty} (o : Okt t) : ∃ k, limbeckref07_Seal.f k t.f0 t.f1 t.f2 t.f3 t.f4 names b = some ((sealO names b t).f0, (sealO names b t).f1, (sealO names b t).f2, (sealO names b t).f3, (sealO names b t).f4) := by
  have hw : wrap64 (1073741824 - (names.length : Int)) = 1073741824 - (names.length : Int) := wrap_ok (by omega) (by omega)
  have : Ev (fun k => limbeckref07_Seal.f k t.f0 t.f1 t.f2 t.f3 t.f4 names b) ((sealO names b t).f0, (sealO names b t).f1, (sealO names b t).f2, (sealO names b t).f3, (sealO names b t).f4) := by
    unfold sealO
    by_cases hb : b < 0
    · rw [sealable_no (.inl hb), if_neg (by decide)]
      exact Ev.pos hb (Ev.rets rfl)
    · by_cases hm : b > wrap64 (1073741824 - (names.length : Int))
      · rw [sealable_no (.inr (by rw [hw] at hm; exact hm)), if_neg (by decide)]
        exact Ev.neg hb (Ev.pos hm (Ev.rets rfl))
      · rw [sealable_yes hb (by rw [hw] at hm; exact hm), if_pos rfl]
        exact Ev.neg hb (Ev.neg hm (Ev.bind (sealed_f names b hn _ t (Nat.lt_succ_self _) o) (Ev.rets rfl)))
  exact this.rounds
/-! ### opened -/
def Openeds (a : Int) (l : List Ty) (t u : Ty) : Prop := Ev (fun k => limbeckref07_opened.f k t.f0 t.f1 t.f2 t.f3 t.f4 a l) (u.f0, u.f1, u.f2, u.f3, u.f4)
theorem opened_l0 (a : Int) (l : List Ty) (t : Ty) (hl : t.f4.length * 80 ≤ 140737488351232) (hs : ∀ y, y ∈ t.f4 → Openeds a l y (plain (turnOpen true a l) y)) (d i : Nat) (hd : d + i = t.f4.length) :
    Ev (fun k => limbeckref07_opened.l0 k a l i t.f0 t.f1 t.f2 t.f3 t.f4 t.f0 t.f1 t.f2 t.f3 ((t.f4.take i).map (plain (turnOpen true a l)))) (t.f0, t.f1, t.f2, t.f3, t.f4.map (plain (turnOpen true a l))) := by
  induction d generalizing i with
  | zero => exact Ev.step (fun _ => rfl) (Ev.neg (by omega) (Ev.rets (by rw [List.take_of_length_le (by omega)])))
  | succ d ih =>
    have hi : i < t.f4.length := by omega
    have hu := hs _ (rdT_mem t.f4 i hi)
    have e : (t.f4.take i).map (plain (turnOpen true a l)) ++ [plain (turnOpen true a l) (rd_T25 t.f4 i)] = (t.f4.take (i + 1)).map (plain (turnOpen true a l)) := by
      rw [rdT_at t.f4 i hi, List.take_succ_eq_append_getElem hi, List.map_append]; rfl
    have hlen : ((t.f4.take i).map (plain (turnOpen true a l))).length = i := by rw [List.length_map, List.length_take]; omega
    have ih := ih (i + 1) (by omega)
    rw [← e] at ih
    unfold Openeds at hu
    generalize plain (turnOpen true a l) (rd_T25 t.f4 i) = u at hu ih
    obtain ⟨u0, u1, u2, u3, u4⟩ := u
    have key : Ev (fun k => if ((t.f4.take i).map (plain (turnOpen true a l))).length < 1759218604441 then (limbeckref07_opened.l0 k a l (wrap64 ((i : Int) + 1)) t.f0 t.f1 t.f2 t.f3 t.f4 t.f0 t.f1 t.f2 t.f3 ((t.f4.take i).map (plain (turnOpen true a l)) ++ [(⟨u0, u1, u2, u3, u4⟩ : Ty)])) else none) (t.f0, t.f1, t.f2, t.f3, t.f4.map (plain (turnOpen true a l))) := by
      refine Ev.pos (by omega) ?_
      rw [wrap_ok (show -9223372036854775808 ≤ (i : Int) + 1 by omega) (by omega)]
      exact ih
    exact Ev.step (fun _ => rfl) (Ev.pos (by omega) (Ev.pos (by omega) (Ev.bind hu key)))
theorem opened_f (a : Int) (ha : 0 ≤ a) (ha1 : a ≤ 1073741824) (l : List Ty) (hl : l.length ≤ 140737488351232) : ∀ (n : Nat) (t : Ty), SizeOf.sizeOf t < n → Okt t → Sn t → Openeds a l t (plain (turnOpen true a l) t)
  | 0, _, h, _, _ => absurd h (Nat.not_lt_zero _)
  | n + 1, t, h, o, sn => by
    have hr := sn.rng
    have hout := opened_l0 a l t o.l80 (fun y hy => opened_f a ha ha1 l hl n y (by have := size_args t y hy; omega) (o.all y hy) (sn.all y hy)) t.f4.length 0 (by omega)
    have j0f : Ev (fun k => limbeckref07_opened.j0 k a l false t.f0 t.f1 t.f2 t.f3 t.f4) (t.f0, t.f1, t.f2, t.f3, t.f4.map (plain (turnOpen true a l))) :=
      Ev.step (f := fun k => limbeckref07_opened.l0 k a l 0 t.f0 t.f1 t.f2 t.f3 t.f4 t.f0 t.f1 t.f2 t.f3 ([] : List Ty)) (fun _ => rfl) hout
    unfold Openeds
    rw [plain_eq]
    by_cases h9 : t.f0 = 9
    · by_cases h1 : t.f1 ≥ a
      · have hw : wrap64 (t.f1 - a) = t.f1 - a := wrap_ok (by omega) (by omega)
        by_cases h2 : wrap64 (t.f1 - a) < (l.length : Int)
        · have e : turnOpen true a l t = some (l.getD (t.f1 - a).toNat z25) := if_pos ⟨rfl, h9, h1, by omega⟩
          rw [e]
          have j0t : Ev (fun k => limbeckref07_opened.j0 k a l true t.f0 t.f1 t.f2 t.f3 t.f4) ((rd_T25 l (wrap64 (t.f1 - a))).f0, (rd_T25 l (wrap64 (t.f1 - a))).f1, (rd_T25 l (wrap64 (t.f1 - a))).f2, (rd_T25 l (wrap64 (t.f1 - a))).f3, (rd_T25 l (wrap64 (t.f1 - a))).f4) :=
            Ev.step (f := fun k => if 0 ≤ (wrap64 (t.f1 - a)) then (if (wrap64 (t.f1 - a)) < (l.length : Int) then (some ((rd_T25 l (wrap64 (t.f1 - a))).f0, (rd_T25 l (wrap64 (t.f1 - a))).f1, (rd_T25 l (wrap64 (t.f1 - a))).f2, (rd_T25 l (wrap64 (t.f1 - a))).f3, (rd_T25 l (wrap64 (t.f1 - a))).f4)) else none) else none) (fun _ => rfl) (Ev.pos (by omega) (Ev.pos h2 (Ev.rets rfl)))
          rw [hw] at j0t
          exact Ev.step (fun _ => rfl) (Ev.pos h9 (Ev.pos h1 (by rw [decide_eq_true h2]; exact j0t)))
        · have e : turnOpen true a l t = none := turnOpen_no (fun h => by omega)
          rw [e, plainAll_map]
          exact Ev.step (fun _ => rfl) (Ev.pos h9 (Ev.pos h1 (by rw [decide_eq_false h2]; exact j0f)))
      · have e : turnOpen true a l t = none := turnOpen_no (fun h => by omega)
        rw [e, plainAll_map]
        exact Ev.step (fun _ => rfl) (Ev.pos h9 (Ev.neg h1 j0f))
    · have e : turnOpen true a l t = none := turnOpen_no (fun h => h9 h.2.1)
      rw [e, plainAll_map]
      exact Ev.step (fun _ => rfl) (Ev.neg h9 j0f)
mutual
theorem plain_id (f : Ty → Option Ty) (hf : ∀ x, f x = none) : ∀ t : Ty, plain f t = t
  | ⟨a0, a1, a2, a3, a4⟩ => by rw [plain_eq, hf]; simp only [plainAll_id f hf a4]
theorem plainAll_id (f : Ty → Option Ty) (hf : ∀ x, f x = none) : ∀ l : List Ty, plainAll f l = l
  | [] => plainAll_nil f
  | a :: l => by rw [plainAll_cons, plain_id f hf a, plainAll_id f hf l]
end
theorem turnOpen_okt {may : Bool} {a : Int} {l : List Ty} (hs : ∀ y, y ∈ l → Okt y) (x u : Ty) (h : turnOpen may a l x = some u) : Okt u := by
  unfold turnOpen at h
  split at h
  · rename_i hc
    have hi : (x.f1 - a).toNat < l.length := by omega
    rw [List.getD_eq_getElem?_getD, List.getElem?_eq_getElem hi] at h
    injection h with h
    subst h
    exact hs _ (List.getElem_mem hi)
  · cases h
theorem turnOpen_nodes {may : Bool} {a : Int} {l : List Ty} {B : Nat} (hs : ∀ y, y ∈ l → nodes y ≤ B) (x u : Ty) (h : turnOpen may a l x = some u) : nodes u ≤ B := by
  unfold turnOpen at h
  split at h
  · rename_i hc
    have hi : (x.f1 - a).toNat < l.length := by omega
    rw [List.getD_eq_getElem?_getD, List.getElem?_eq_getElem hi] at h
    injection h with h
    subst h
    exact hs _ (List.getElem_mem hi)
  · cases h
theorem openO_okt {a : Int} {l : List Ty} (ol : ∀ y, y ∈ l → Okt y) {t : Ty} (o : Okt t) : Okt ((openO a l t).getD z25) := by
  cases h : openO a l t with
  | none => exact okt_zero
  | some u => rw [Option.getD_some, (done_some h).2.2]; exact plain_okt _ (turnOpen_okt ol) t o
/-- The reference's Open answers what the program's does. -/
theorem ropen_f {a : Int} {l : List Ty} (hl : l.length ≤ 140737488351232) (ol : ∀ y, y ∈ l → Okt y) (bl : ∀ y, y ∈ l → nodes y ≤ 1048576) {t : Ty} (o : Okt t) (sn : Sn t) (bt : nodes t ≤ 1048576) : ∃ k, limbeckref07_Open.f k t.f0 t.f1 t.f2 t.f3 t.f4 a l = some (tup (openO a l t)) := by
  have h1 := plain_nodes (turnOpen (mayB a) a l) 1048576 (by omega) (turnOpen_nodes bl) t
  have h2 : nodes t * 1048576 ≤ 1048576 * 1048576 := Nat.mul_le_mul_right _ bt
  have hb : (nodes (plain (turnOpen (mayB a) a l) t) : Int) ≤ 4611686018427387904 := by omega
  have e : openO a l t = fitO (plain (turnOpen (mayB a) a l) t) := done_fits (turnOpen (mayB a) a l) t (by omega)
  have ou := plain_okt _ (turnOpen_okt (may := mayB a) (a := a) ol) t o
  have : Ev (fun k => limbeckref07_Open.f k t.f0 t.f1 t.f2 t.f3 t.f4 a l) (tup (openO a l t)) := by
    rw [e]
    cases hm : mayB a with
    | false =>
      rw [hm] at hb ou
      have hid : plain (turnOpen false a l) t = t := plain_id _ (fun x => turnOpen_no (fun h => by cases h.1)) t
      rw [hid] at hb ou ⊢
      have h := fitting_f ou hb
      have jt : Ev (fun k => limbeckref07_Open.j0 k a l true t.f0 t.f1 t.f2 t.f3 t.f4) (tup (fitO t)) :=
        Ev.step (f := fun k => (limbeckref07_fitting.f k t.f0 t.f1 t.f2 t.f3 t.f4).bind fun bt174 => (some (bt174.1, bt174.2.1, bt174.2.2.1, bt174.2.2.2.1, bt174.2.2.2.2.1, bt174.2.2.2.2.2))) (fun _ => rfl) (Ev.bind h (Ev.rets rfl))
      by_cases hb0 : a < 0
      · exact Ev.pos hb0 jt
      · have hc : a > 1073741824 := by
          apply Int.not_le.1
          intro h
          have : mayB a = true := by simp [mayB]; omega
          rw [hm] at this; cases this
        exact Ev.neg hb0 (by rw [decide_eq_true hc]; exact jt)
    | true =>
      rw [hm] at hb ou
      obtain ⟨ha0, ha1⟩ := mayB_iff hm
      have h1 := opened_f a ha0 ha1 l hl _ t (Nat.lt_succ_self _) o sn
      have h2 := fitting_f ou hb
      unfold Openeds at h1
      generalize plain (turnOpen true a l) t = u at *
      obtain ⟨u0, u1, u2, u3, u4⟩ := u
      have jf : Ev (fun k => limbeckref07_Open.j0 k a l false t.f0 t.f1 t.f2 t.f3 t.f4) (tup (fitO ⟨u0, u1, u2, u3, u4⟩)) :=
        Ev.step (f := fun k => (limbeckref07_opened.f k t.f0 t.f1 t.f2 t.f3 t.f4 a l).bind fun bt184 => ((limbeckref07_fitting.f k bt184.1 bt184.2.1 bt184.2.2.1 bt184.2.2.2.1 bt184.2.2.2.2).bind fun bt193 => (some (bt193.1, bt193.2.1, bt193.2.2.1, bt193.2.2.2.1, bt193.2.2.2.2.1, bt193.2.2.2.2.2)))) (fun _ => rfl) (Ev.bind h1 (Ev.bind h2 (Ev.rets rfl)))
      exact Ev.neg (by omega) (by rw [decide_eq_false (show ¬ a > 1073741824 by omega)]; exact jf)
  exact this.rounds
end Go.Proofs.Ytnfnhjhnfdkinaa.PSubstPuts

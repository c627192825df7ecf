/-
  Types: what the reference's sameness and the law's measure answer, in plain words. No conditions beyond what each lemma says.
-/
import Derived.Test.YtalmhbiedkjpmaaPEnvPlaysx2
import Derived.Test.YtalmhbiedkjpmaaPEnvPlaysx3
import Derived.Lib.Strings
namespace Go.Proofs.Ytalmhbiedkjpmaa.PEnvPlays
open Go.RowKit Go.Proofs.YtalmhbiedkjpmaaW.Mine Go.Proofs.YtalmhbiedkjpmaaW.PrintWords Go.Proofs.YtalmhbiedkjpmaaW.PrintLast Go.Proofs.YtalmhbiedkjpmaaW.PrintMore
set_option linter.unusedVariables false
set_option linter.unusedSimpArgs false
mutual
def same : S31 → S31 → Bool
  | ⟨a0, a1, a2, a3, a4⟩, ⟨b0, b1, b2, b3, b4⟩ => decide (a0 = b0) && (decide (a1 = b1) && (eqText a2 b2 && (eqTexts a3 b3 && sameAll a4 b4)))
def sameAll : List S31 → List S31 → Bool
  | [], [] => true
  | a :: l, b :: m => same a b && sameAll l m
  | _, _ => false
end
theorem sameAll_eq : ∀ (l m : List S31), sameAll l m = allTwo same l m
  | [], [] => by simp [sameAll, allTwo]
  | a :: l, b :: m => by simp [sameAll, allTwo, sameAll_eq l m]
  | [], _ :: _ => by simp [sameAll, allTwo]
  | _ :: _, [] => by simp [sameAll, allTwo]
theorem same_eq (x y : S31) : same x y = (decide (x.f0 = y.f0) && (decide (x.f1 = y.f1) && (eqText x.f2 y.f2 && (eqTexts x.f3 y.f3 && allTwo same x.f4 y.f4)))) := by
  cases x; cases y
  simp only [same, sameAll_eq]
theorem size_args : ∀ (x y : S31), y ∈ x.f4 → SizeOf.sizeOf y < SizeOf.sizeOf x
  | ⟨a0, a1, a2, a3, a4⟩, y, h => by
    have h2 : y ∈ a4 := h
    have h3 := List.sizeOf_lt_of_mem h2
    rw [S31.mk.sizeOf_spec]
    omega
theorem text_iff (a b : ByteArray) : eqText a b = true ↔ a = b := by
  unfold eqText
  constructor
  · intro h
    have h := eq_of_beq h
    apply ByteArray.ext
    apply Array.toList_inj.1
    rw [Lib.toList_data, Lib.toList_data] at h
    exact h
  · rintro rfl; simp
theorem texts_iff : ∀ (l m : List ByteArray), eqTexts l m = true ↔ l = m
  | [], [] => by simp [eqTexts, allTwo]
  | a :: l, b :: m => by
    have := texts_iff l m
    unfold eqTexts at this ⊢
    simp only [allTwo, Bool.and_eq_true, text_iff, this, List.cons.injEq]
  | [], _ :: _ => by simp [eqTexts, allTwo]
  | _ :: _, [] => by simp [eqTexts, allTwo]
mutual
theorem same_iff : ∀ (x y : S31), same x y = true ↔ x = y
  | ⟨a0, a1, a2, a3, a4⟩, ⟨b0, b1, b2, b3, b4⟩ => by
    simp only [same, Bool.and_eq_true, decide_eq_true_eq, text_iff, texts_iff, sameAll_iff a4 b4, S31.mk.injEq]
theorem sameAll_iff : ∀ (l m : List S31), sameAll l m = true ↔ l = m
  | [], [] => by simp [sameAll]
  | a :: l, b :: m => by
    simp only [sameAll, Bool.and_eq_true, same_iff a b, sameAll_iff l m, List.cons.injEq]
  | [], _ :: _ => by simp [sameAll]
  | _ :: _, [] => by simp [sameAll]
end
theorem two_step {α β : Type} (p : α → β → Bool) (l : List α) (m : List β) (i : Nat) (h : i < l.length) (h' : i < m.length) : allTwo p (l.drop i) (m.drop i) = (p l[i] m[i] && allTwo p (l.drop (i + 1)) (m.drop (i + 1))) := by
  rw [List.drop_eq_getElem_cons h, List.drop_eq_getElem_cons h']; rfl
theorem two_end {α β : Type} (p : α → β → Bool) (l : List α) (m : List β) (i : Nat) (h : l.length ≤ i) (h' : m.length ≤ i) : allTwo p (l.drop i) (m.drop i) = true := by
  rw [List.drop_eq_nil_of_le h, List.drop_eq_nil_of_le h']; rfl
theorem wrap_up {i : Nat} (h : i < 9223372036854775807) : wrap64 ((i : Int) + 1) = ((i + 1 : Nat) : Int) := by unfold wrap64; omega
theorem rdT_at (l : List S31) (i : Nat) (h : i < l.length) : rd_T31 l (i : Int) = l[i] := getD_at _ l i h
/-! labels -/
theorem labels_l (xs ys : List ByteArray) (hn : xs.length = ys.length) (hb : xs.length ≤ 140737488351232) (d i : Nat) (hd : d + i = xs.length) :
    Ev (fun k => limbeckref01_Same.l0 k xs ys i) (eqTexts (xs.drop i) (ys.drop i)) := by
  unfold eqTexts
  induction d generalizing i with
  | zero =>
    rw [two_end _ _ _ _ (by omega) (by omega)]
    exact Ev.step (fun _ => rfl) (Ev.neg (by omega) (Ev.step (f := fun _ => some true) (fun _ => rfl) (Ev.rets rfl)))
  | succ d ih =>
    rw [two_step _ _ _ i (by omega) (by omega)]
    refine Ev.step (fun _ => rfl) (Ev.pos (by omega) ?_)
    rw [decide_eq_true (show (i : Int) < (ys.length : Int) by omega)]
    refine Ev.step (fun _ => rfl) (Ev.pos (by omega) (Ev.pos (by omega) ?_))
    rw [rdOf_at _ xs i (by omega), rdOf_at _ ys i (by omega), wrap_up (by omega)]
    by_cases e : xs[i].toList = ys[i].toList
    · rw [show eqText xs[i] ys[i] = true by unfold eqText; rw [e]; simp, Bool.true_and]
      exact Ev.pos e (ih (i + 1) (by omega))
    · rw [show eqText xs[i] ys[i] = false by unfold eqText; exact beq_eq_false_iff_ne.mpr e, Bool.false_and]
      exact Ev.neg e (Ev.rets rfl)
theorem labels_f (xs ys : List ByteArray) (hb : xs.length ≤ 140737488351232) : Ev (fun k => limbeckref01_Same.f k xs ys) (eqTexts xs ys) := by
  unfold limbeckref01_Same.f
  by_cases h : xs.length = ys.length
  · exact Ev.pos (by omega) (labels_l xs ys h hb xs.length 0 (by omega))
  · rw [show eqTexts xs ys = false from allTwo_ne h]
    exact Ev.neg (by omega) (Ev.rets rfl)
/-- Lists as long as there may be, at each place. -/
inductive Okt : S31 → Prop
  | mk (x : S31) (h3 : x.f3.length ≤ 140737488351232) (h4 : x.f4.length * 80 ≤ 140737488351232) (hs : ∀ y, y ∈ x.f4 → Okt y) : Okt x
theorem Okt.l3 {x : S31} (h : Okt x) : x.f3.length ≤ 140737488351232 := by cases h; assumption
theorem Okt.l80 {x : S31} (h : Okt x) : x.f4.length * 80 ≤ 140737488351232 := by cases h; assumption
theorem Okt.l4 {x : S31} (h : Okt x) : x.f4.length ≤ 140737488351232 := by have := h.l80; omega
theorem Okt.all {x : S31} (h : Okt x) : ∀ y, y ∈ x.f4 → Okt y := by cases h; assumption
/-! types -/
abbrev evSame (x y : S31) : Prop := Ev (fun k => limbeckref04_Same.f k x.f0 x.f1 x.f2 x.f3 x.f4 y.f0 y.f1 y.f2 y.f3 y.f4) (same x y)
theorem types_l (x y : S31) (hn : x.f4.length = y.f4.length) (hb : x.f4.length ≤ 140737488351232) (hs : ∀ u, u ∈ x.f4 → ∀ v, evSame u v) (d i : Nat) (hd : d + i = x.f4.length) :
    Ev (fun k => limbeckref04_Same.l0 k i x.f0 x.f1 x.f2 x.f3 x.f4 y.f0 y.f1 y.f2 y.f3 y.f4) (allTwo same (x.f4.drop i) (y.f4.drop i)) := by
  induction d generalizing i with
  | zero =>
    rw [two_end _ _ _ _ (by omega) (by omega)]
    exact Ev.step (fun _ => rfl) (Ev.neg (by omega) (Ev.step (f := fun _ => some true) (fun _ => rfl) (Ev.rets rfl)))
  | succ d ih =>
    rw [two_step _ _ _ i (by omega) (by omega)]
    refine Ev.step (fun _ => rfl) (Ev.pos (by omega) ?_)
    rw [decide_eq_true (show (i : Int) < (y.f4.length : Int) by omega)]
    refine Ev.step (fun _ => rfl) (Ev.pos (by omega) (Ev.pos (by omega) ?_))
    rw [rdT_at x.f4 i (by omega), rdT_at y.f4 i (by omega), wrap_up (by omega)]
    refine Ev.bind (hs _ (List.getElem_mem (by omega)) y.f4[i]) ?_
    cases e : same x.f4[i] y.f4[i] with
    | true => rw [Bool.true_and]; exact Ev.pos rfl (ih (i + 1) (by omega))
    | false => rw [Bool.false_and]; exact Ev.neg (by decide) (Ev.rets rfl)
theorem types_f : ∀ (n : Nat) (x : S31), SizeOf.sizeOf x < n → Okt x → ∀ y, evSame x y
  | 0, _, h, _, _ => absurd h (Nat.not_lt_zero _)
  | n + 1, x, h, hb, y => by
    have ff : ∀ a0 a1 a2 a3 a4 b0 b1 b2 b3 b4, Ev (fun k => limbeckref04_Same.j0 k true a0 a1 a2 a3 a4 b0 b1 b2 b3 b4) false := fun a0 a1 a2 a3 a4 b0 b1 b2 b3 b4 => Ev.step (f := fun _ => some false) (fun _ => rfl) (Ev.rets rfl)
    unfold evSame
    rw [same_eq]
    refine Ev.step (fun _ => rfl) ?_
    by_cases e0 : x.f0 = y.f0
    · rw [decide_eq_true e0, Bool.true_and]
      refine Ev.pos e0 ?_
      by_cases e1 : x.f1 = y.f1
      · rw [decide_eq_true e1, Bool.true_and]
        refine Ev.pos e1 ?_
        by_cases e2 : x.f2.toList = y.f2.toList
        · rw [show eqText x.f2 y.f2 = true by unfold eqText; rw [e2]; simp, Bool.true_and]
          refine Ev.pos e2 (Ev.bind (labels_f x.f3 y.f3 hb.l3) ?_)
          cases e3 : eqTexts x.f3 y.f3 with
          | true =>
            rw [Bool.true_and]
            refine Ev.pos rfl ?_
            by_cases e4 : x.f4.length = y.f4.length
            · rw [show ((x.f4.length : Int) != (y.f4.length : Int)) = false by rw [e4]; simp]
              refine Ev.step (f := fun k => limbeckref04_Same.l0 k 0 x.f0 x.f1 x.f2 x.f3 x.f4 y.f0 y.f1 y.f2 y.f3 y.f4) (fun _ => rfl) ?_
              exact types_l x y e4 hb.l4 (fun u hu v => types_f n u (by have := size_args x u hu; omega) (hb.all u hu) v) x.f4.length 0 (by omega)
            · rw [show ((x.f4.length : Int) != (y.f4.length : Int)) = true by rw [bne_iff_ne]; omega, allTwo_ne e4]
              exact ff _ _ _ _ _ _ _ _ _ _
          | false => rw [Bool.false_and]; exact Ev.neg (by decide) (ff _ _ _ _ _ _ _ _ _ _)
        · rw [show eqText x.f2 y.f2 = false by unfold eqText; exact beq_eq_false_iff_ne.mpr e2, Bool.false_and]
          exact Ev.neg e2 (ff _ _ _ _ _ _ _ _ _ _)
      · rw [decide_eq_false e1, Bool.false_and]; exact Ev.neg e1 (ff _ _ _ _ _ _ _ _ _ _)
    · rw [decide_eq_false e0, Bool.false_and]; exact Ev.neg e0 (ff _ _ _ _ _ _ _ _ _ _)
theorem wrap_ok {i : Int} (h0 : -9223372036854775808 ≤ i) (h1 : i ≤ 9223372036854775807) : wrap64 i = i := by unfold wrap64; omega
theorem rdT_mem (l : List S31) (i : Nat) (h : i < l.length) : rd_T31 l (i : Int) ∈ l := by
  unfold rd_T31
  rw [Int.toNat_natCast, List.getD_eq_getElem?_getD, List.getElem?_eq_getElem h]
  exact List.getElem_mem h
theorem much_l1 (a0 a1 : Int) (a2 : ByteArray) (l3 : List ByteArray) (l4 : List S31) (hl : l4.length * 80 ≤ 140737488351232) (hs : ∀ y, y ∈ l4 → ∃ r, Ev (fun k => limbecklaw04_Much.f k y.f0 y.f1 y.f2 y.f3 y.f4) r) (d i : Nat) (hd : d + i = l4.length) (x3 : Int) :
    ∃ r, Ev (fun k => limbecklaw04_Much.l1 k x3 i a0 a1 a2 l3 l4) r := by
  induction d generalizing i x3 with
  | zero => exact ⟨_, Ev.step (fun _ => rfl) (Ev.neg (by omega) (Ev.rets rfl))⟩
  | succ d ih =>
    by_cases h : x3 < 3000
    · obtain ⟨t, ht⟩ := hs _ (rdT_mem l4 i (by omega))
      obtain ⟨r, hr⟩ := ih (i + 1) (by omega) (wrap64 (x3 + t))
      refine ⟨r, Ev.step (fun _ => rfl) (Ev.pos (by omega) (Ev.pos h (Ev.pos (by omega) (Ev.bind ht ?_))))⟩
      rw [wrap_ok (show -9223372036854775808 ≤ (i : Int) + 1 by omega) (by omega)]
      exact hr
    · exact ⟨_, Ev.step (fun _ => rfl) (Ev.pos (by omega) (Ev.neg h (Ev.rets rfl)))⟩
theorem much_l0 (a0 a1 : Int) (a2 : ByteArray) (l3 : List ByteArray) (l4 : List S31) (hl : l4.length * 80 ≤ 140737488351232) (hs : ∀ y, y ∈ l4 → ∃ r, Ev (fun k => limbecklaw04_Much.f k y.f0 y.f1 y.f2 y.f3 y.f4) r) (d i : Nat) (hd : d + i = l3.length) (x3 : Int) :
    ∃ r, Ev (fun k => limbecklaw04_Much.l0 k x3 i a0 a1 a2 l3 l4) r := by
  have hj : ∀ x, ∃ r, Ev (fun k => limbecklaw04_Much.j1 k x a0 a1 a2 l3 l4) r := fun x => by
    obtain ⟨r, hr⟩ := much_l1 a0 a1 a2 l3 l4 hl hs l4.length 0 (by omega) x
    exact ⟨r, Ev.step (fun _ => rfl) hr⟩
  induction d generalizing i x3 with
  | zero =>
    obtain ⟨r, hr⟩ := hj x3
    exact ⟨r, Ev.step (fun _ => rfl) (Ev.neg (by omega) hr)⟩
  | succ d ih =>
    by_cases h : (i : Int) < 1000
    · obtain ⟨r, hr⟩ := ih (i + 1) (by omega) (wrap64 (x3 + (wrap64 (((rdOf ByteArray.empty l3 i).size : Int) / 8))))
      refine ⟨r, Ev.step (fun _ => rfl) (Ev.pos (by omega) (Ev.pos h (Ev.pos (by omega) ?_)))⟩
      rw [wrap_ok (show -9223372036854775808 ≤ (i : Int) + 1 by omega) (by omega)]
      exact hr
    · obtain ⟨r, hr⟩ := hj x3
      exact ⟨r, Ev.step (fun _ => rfl) (Ev.pos (by omega) (Ev.neg h hr))⟩
theorem much_told : ∀ (n : Nat) (x : S31), SizeOf.sizeOf x < n → Okt x → ∃ r, Ev (fun k => limbecklaw04_Much.f k x.f0 x.f1 x.f2 x.f3 x.f4) r
  | 0, _, h, _ => absurd h (Nat.not_lt_zero _)
  | n + 1, x, h, ho => by
    obtain ⟨r, hr⟩ := much_l0 x.f0 x.f1 x.f2 x.f3 x.f4 ho.l80 (fun y hy => much_told n y (by have := size_args x y hy; omega) (ho.all y hy)) x.f3.length 0 (by omega) (wrap64 ((wrap64 (1 + (wrap64 ((x.f2.size : Int) / 8)))) + (x.f3.length : Int)))
    exact ⟨r, Ev.step (fun _ => rfl) hr⟩
theorem told {x : S31} (o : Okt x) : ∃ k r, limbecklaw04_Much.f k x.f0 x.f1 x.f2 x.f3 x.f4 = some r := by
  obtain ⟨r, hr⟩ := much_told _ x (Nat.lt_succ_self _) o
  obtain ⟨k, hk⟩ := hr.rounds
  exact ⟨k, r, hk⟩
theorem same_told {x : S31} (o : Okt x) (y : S31) : ∃ k, limbeckref04_Same.f k x.f0 x.f1 x.f2 x.f3 x.f4 y.f0 y.f1 y.f2 y.f3 y.f4 = some (same x y) := (types_f _ x (Nat.lt_succ_self _) o y).rounds
theorem same_refl (x : S31) : same x x = true := (same_iff x x).2 rfl
end Go.Proofs.Ytalmhbiedkjpmaa.PEnvPlays

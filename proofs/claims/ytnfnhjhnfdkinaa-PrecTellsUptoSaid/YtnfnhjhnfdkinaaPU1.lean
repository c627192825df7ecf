/-
  prec: the plain law: less is an order; what fuse, cut answer, held against it.
-/
import Derived.Test.YtnfnhjhnfdkinaaF3
import Derived.Lib.Strings
namespace Go.Proofs.Ytnfnhjhnfdkinaa.PPrecTells
open Go.RowKit Go.Proofs.YtnfnhjhnfdkinaaW.Mine Go.Proofs.YtnfnhjhnfdkinaaW.PrintWords Go.Proofs.YtnfnhjhnfdkinaaW.PrintLast Go.Proofs.YtnfnhjhnfdkinaaW.PrintMore
set_option linter.unusedVariables false
set_option linter.unusedSimpArgs false
theorem text_iff (a b : ByteArray) : eqText a b = true ↔ a = b := by
  unfold eqText
  constructor
  · intro h
    have h := eq_of_beq h
    apply ByteArray.ext
    apply Array.toList_inj.1
    rw [Lib.toList_data, Lib.toList_data] at h
    exact h
  · rintro rfl; simp
theorem texts_iff : ∀ (l m : List ByteArray), eqTexts l m = true ↔ l = m
  | [], [] => by simp [eqTexts, allTwo]
  | a :: l, b :: m => by
    have := texts_iff l m
    unfold eqTexts at this ⊢
    simp only [allTwo, Bool.and_eq_true, text_iff, this, List.cons.injEq]
  | [], _ :: _ => by simp [eqTexts, allTwo]
  | _ :: _, [] => by simp [eqTexts, allTwo]
mutual
theorem same_iff : ∀ (x y : Ty), same x y = true ↔ x = y
  | ⟨a0, a1, a2, a3, a4⟩, ⟨b0, b1, b2, b3, b4⟩ => by
    simp only [same, Bool.and_eq_true, decide_eq_true_eq, text_iff, texts_iff, sameAll_iff a4 b4, S25.mk.injEq]
theorem sameAll_iff : ∀ (l m : List Ty), sameAll l m = true ↔ l = m
  | [], [] => by simp [sameAll]
  | a :: l, b :: m => by
    simp only [sameAll, Bool.and_eq_true, same_iff a b, sameAll_iff l m, List.cons.injEq]
  | [], _ :: _ => by simp [sameAll]
  | _ :: _, [] => by simp [sameAll]
end
/-- Two nodes alike, as a statement. -/
def Like (x y : Ty) : Prop := x.f0 = y.f0 ∧ x.f1 = y.f1 ∧ x.f2 = y.f2 ∧ x.f3 = y.f3 ∧ x.f4.length = y.f4.length
theorem like_iff (x y : Ty) : likeTy x y = true ↔ Like x y := by
  simp only [likeTy, Like, Bool.and_eq_true, decide_eq_true_eq, text_iff, texts_iff]
theorem less_iff (x y : Ty) : less x y = true ↔ y = dynTy ∨ (Like x y ∧ lessAll x.f4 y.f4 = true) := by
  rw [less_eq, Bool.or_eq_true, Bool.and_eq_true, same_iff, like_iff, lessAll_eq]
theorem lessAll_len : ∀ {l m : List Ty}, lessAll l m = true → l.length = m.length
  | [], [], _ => rfl
  | a :: l, b :: m, h => by
    simp only [lessAll, Bool.and_eq_true] at h
    simp [lessAll_len h.2]
  | [], _ :: _, h => by simp [lessAll] at h
  | _ :: _, [], h => by simp [lessAll] at h
mutual
theorem less_refl : ∀ (x : Ty), less x x = true
  | ⟨a0, a1, a2, a3, a4⟩ => (less_iff _ _).2 (.inr ⟨⟨rfl, rfl, rfl, rfl, rfl⟩, lessAll_refl a4⟩)
theorem lessAll_refl : ∀ (l : List Ty), lessAll l l = true
  | [] => by simp [lessAll]
  | a :: l => by simp only [lessAll, less_refl a, lessAll_refl l, Bool.and_self]
end
theorem dyn_less {y : Ty} (h : less dynTy y = true) : y = dynTy := by
  rcases (less_iff _ _).1 h with h | ⟨⟨e0, e1, e2, e3, e4⟩, _⟩
  · exact h
  · obtain ⟨b0, b1, b2, b3, b4⟩ := y
    simp only [dynTy] at e0 e1 e2 e3 e4
    have : b4 = [] := List.eq_nil_of_length_eq_zero e4.symm
    subst e0 e1 e2 e3 this
    rfl
mutual
theorem less_trans : ∀ (x y z : Ty), less x y = true → less y z = true → less x z = true
  | ⟨a0, a1, a2, a3, a4⟩, y, z, h, k => by
    rcases (less_iff _ _).1 k with rfl | ⟨⟨e0, e1, e2, e3, e4⟩, k4⟩
    · exact (less_iff _ _).2 (.inl rfl)
    · rcases (less_iff _ _).1 h with rfl | ⟨⟨d0, d1, d2, d3, d4⟩, h4⟩
      · rw [dyn_less k]; exact (less_iff _ _).2 (.inl rfl)
      · exact (less_iff _ _).2 (.inr ⟨⟨d0.trans e0, d1.trans e1, d2.trans e2, d3.trans e3, d4.trans e4⟩, lessAll_trans a4 y.f4 z.f4 h4 k4⟩)
theorem lessAll_trans : ∀ (l m n : List Ty), lessAll l m = true → lessAll m n = true → lessAll l n = true
  | [], [], n, _, k => k
  | a :: l, b :: m, c :: n, h, k => by
    simp only [lessAll, Bool.and_eq_true] at h k ⊢
    exact ⟨less_trans a b c h.1 k.1, lessAll_trans l m n h.2 k.2⟩
  | a :: l, b :: m, [], h, k => by simp [lessAll] at k
  | [], _ :: _, _, h, _ => by simp [lessAll] at h
  | _ :: _, [], _, h, _ => by simp [lessAll] at h
end
mutual
theorem less_anti : ∀ (x y : Ty), less x y = true → less y x = true → x = y
  | ⟨a0, a1, a2, a3, a4⟩, y, h, k => by
    rcases (less_iff _ _).1 k with hx | ⟨⟨e0, e1, e2, e3, e4⟩, k4⟩
    · rw [hx] at h ⊢; exact (dyn_less h).symm
    · rcases (less_iff _ _).1 h with rfl | ⟨⟨d0, d1, d2, d3, d4⟩, h4⟩
      · exact dyn_less k
      · obtain ⟨b0, b1, b2, b3, b4⟩ := y
        simp only at d0 d1 d2 d3
        subst d0 d1 d2 d3
        rw [lessAll_anti a4 b4 h4 k4]
theorem lessAll_anti : ∀ (l m : List Ty), lessAll l m = true → lessAll m l = true → l = m
  | [], [], _, _ => rfl
  | a :: l, b :: m, h, k => by
    simp only [lessAll, Bool.and_eq_true] at h k
    rw [less_anti a b h.1 k.1, lessAll_anti l m h.2 k.2]
  | [], _ :: _, h, _ => by simp [lessAll] at h
  | _ :: _, [], h, _ => by simp [lessAll] at h
end
mutual
theorem fuse_less : ∀ (x y t : Ty), fuse x y = some t → less t x = true ∧ less t y = true
  | ⟨a0, a1, a2, a3, a4⟩, y, t, h => by
    rw [fuse_eq] at h
    by_cases h1 : same y dynTy = true
    · rw [if_pos h1] at h
      obtain rfl := Option.some.inj h
      exact ⟨less_refl _, (less_iff _ _).2 (.inl ((same_iff _ _).1 h1))⟩
    rw [if_neg h1] at h
    by_cases h2 : same ⟨a0, a1, a2, a3, a4⟩ dynTy = true
    · rw [if_pos h2] at h
      obtain rfl := Option.some.inj h
      exact ⟨(less_iff _ _).2 (.inl ((same_iff _ _).1 h2)), less_refl _⟩
    rw [if_neg h2] at h
    by_cases h3 : likeTy ⟨a0, a1, a2, a3, a4⟩ y = true
    · rw [if_pos h3] at h
      obtain ⟨l, hl, rfl⟩ := Option.map_eq_some_iff.1 h
      obtain ⟨e0, e1, e2, e3, e4⟩ := (like_iff _ _).1 h3
      obtain ⟨k1, k2⟩ := fuseAll_less a4 y.f4 l e4 hl
      exact ⟨(less_iff _ _).2 (.inr ⟨⟨rfl, rfl, rfl, rfl, lessAll_len k1⟩, k1⟩), (less_iff _ _).2 (.inr ⟨⟨e0, e1, e2, e3, lessAll_len k2⟩, k2⟩)⟩
    · rw [if_neg h3] at h; cases h
theorem fuseAll_less : ∀ (l m r : List Ty), l.length = m.length → fuseAll l m = some r → lessAll r l = true ∧ lessAll r m = true
  | [], [], r, _, h => by
    simp only [fuseAll, Option.some.injEq] at h
    subst h
    exact ⟨by simp [lessAll], by simp [lessAll]⟩
  | a :: l, b :: m, r, hn, h => by
    simp only [fuseAll] at h
    obtain ⟨t, ht, h⟩ := Option.bind_eq_some_iff.1 h
    obtain ⟨q, hq, rfl⟩ := Option.map_eq_some_iff.1 h
    have k1 := fuse_less a b t ht
    have k2 := fuseAll_less l m q (by simpa using hn) hq
    exact ⟨by simp only [lessAll, k1.1, k2.1, Bool.and_self], by simp only [lessAll, k1.2, k2.2, Bool.and_self]⟩
  | [], _ :: _, _, hn, _ => by simp at hn
  | _ :: _, [], _, hn, _ => by simp at hn
end
mutual
theorem fuse_great : ∀ (c x y : Ty), less c x = true → less c y = true → ∃ t, fuse x y = some t ∧ less c t = true
  | ⟨c0, c1, c2, c3, c4⟩, x, y, h, k => by
    rw [fuse_eq]
    by_cases h1 : same y dynTy = true
    · rw [if_pos h1]; exact ⟨x, rfl, h⟩
    rw [if_neg h1]
    by_cases h2 : same x dynTy = true
    · rw [if_pos h2]; exact ⟨y, rfl, k⟩
    rw [if_neg h2]
    rcases (less_iff _ _).1 h with hx | ⟨⟨d0, d1, d2, d3, d4⟩, h4⟩
    · exact absurd ((same_iff _ _).2 hx) h2
    rcases (less_iff _ _).1 k with hy | ⟨⟨e0, e1, e2, e3, e4⟩, k4⟩
    · exact absurd ((same_iff _ _).2 hy) h1
    rw [if_pos ((like_iff _ _).2 ⟨d0.symm.trans e0, d1.symm.trans e1, d2.symm.trans e2, d3.symm.trans e3, d4.symm.trans e4⟩)]
    obtain ⟨r, hr, hl⟩ := fuseAll_great c4 x.f4 y.f4 h4 k4
    rw [hr]
    exact ⟨_, rfl, (less_iff _ _).2 (.inr ⟨⟨d0, d1, d2, d3, lessAll_len hl⟩, hl⟩)⟩
theorem fuseAll_great : ∀ (c l m : List Ty), lessAll c l = true → lessAll c m = true → ∃ r, fuseAll l m = some r ∧ lessAll c r = true
  | [], [], [], _, _ => ⟨[], by simp [fuseAll], by simp [lessAll]⟩
  | c :: cs, a :: l, b :: m, h, k => by
    simp only [lessAll, Bool.and_eq_true] at h k
    obtain ⟨t, ht, hl⟩ := fuse_great c a b h.1 k.1
    obtain ⟨r, hr, hm⟩ := fuseAll_great cs l m h.2 k.2
    exact ⟨t :: r, by simp [fuseAll, ht, hr], by simp only [lessAll, hl, hm, Bool.and_self]⟩
  | [], _ :: _, _, h, _ => by simp [lessAll] at h
  | [], [], _ :: _, _, k => by simp [lessAll] at k
  | _ :: _, [], _, h, _ => by simp [lessAll] at h
  | _ :: _, _ :: _, [], _, k => by simp [lessAll] at k
end
end Go.Proofs.Ytnfnhjhnfdkinaa.PPrecTells

/-
  ConvKeeps: texts of this claim, put together by a program of this session. No conditions beyond what each lemma says.
-/
import Derived.Test.YtnfnhjhnfdkinaazConvKeeps11
import Derived.Test.YtnfnhjhnfdkinaazConvKeeps13
import Derived.Test.YtnfnhjhnfdkinaazConvKeeps14
import Derived.Lib.Strings
namespace Go.Proofs.Ytnfnhjhnfdkinaa.PConvBack
open Go.RowKit Go.Proofs.YtnfnhjhnfdkinaaW.Mine Go.Proofs.YtnfnhjhnfdkinaaW.PrintWords Go.Proofs.YtnfnhjhnfdkinaaW.PrintLast Go.Proofs.YtnfnhjhnfdkinaaW.PrintMore
set_option linter.unusedVariables false
set_option linter.unusedSimpArgs false
mutual
def same : S25 → S25 → Bool
  | ⟨a0, a1, a2, a3, a4⟩, ⟨b0, b1, b2, b3, b4⟩ => decide (a0 = b0) && (decide (a1 = b1) && (eqText a2 b2 && (eqTexts a3 b3 && sameAll a4 b4)))
def sameAll : List S25 → List S25 → Bool
  | [], [] => true
  | a :: l, b :: m => same a b && sameAll l m
  | _, _ => false
end
theorem size_args : ∀ (x y : S25), y ∈ x.f4 → SizeOf.sizeOf y < SizeOf.sizeOf x
  | ⟨a0, a1, a2, a3, a4⟩, y, h => by
    have h2 : y ∈ a4 := h
    have h3 := List.sizeOf_lt_of_mem h2
    rw [S25.mk.sizeOf_spec]
    omega
theorem text_iff (a b : ByteArray) : eqText a b = true ↔ a = b := by
  unfold eqText
  constructor
  · intro h
    have h := eq_of_beq h
    apply ByteArray.ext
    apply Array.toList_inj.1
    rw [Lib.toList_data, Lib.toList_data] at h
    exact h
  · rintro rfl; simp
theorem texts_iff : ∀ (l m : List ByteArray), eqTexts l m = true ↔ l = m
  | [], [] => by simp [eqTexts, allTwo]
  | a :: l, b :: m => by
    have := texts_iff l m
    unfold eqTexts at this ⊢
    simp only [allTwo, Bool.and_eq_true, text_iff, this, List.cons.injEq]
  | [], _ :: _ => by simp [eqTexts, allTwo]
  | _ :: _, [] => by simp [eqTexts, allTwo]
theorem two_step {α β : Type} (p : α → β → Bool) (l : List α) (m : List β) (i : Nat) (h : i < l.length) (h' : i < m.length) : allTwo p (l.drop i) (m.drop i) = (p l[i] m[i] && allTwo p (l.drop (i + 1)) (m.drop (i + 1))) := by
  rw [List.drop_eq_getElem_cons h, List.drop_eq_getElem_cons h']; rfl
theorem two_end {α β : Type} (p : α → β → Bool) (l : List α) (m : List β) (i : Nat) (h : l.length ≤ i) (h' : m.length ≤ i) : allTwo p (l.drop i) (m.drop i) = true := by
  rw [List.drop_eq_nil_of_le h, List.drop_eq_nil_of_le h']; rfl
theorem wrap_up {i : Nat} (h : i < 9223372036854775807) : wrap64 ((i : Int) + 1) = ((i + 1 : Nat) : Int) := by unfold wrap64; omega
theorem rdT_at (l : List S25) (i : Nat) (h : i < l.length) : rd_T25 l (i : Int) = l[i] := getD_at _ l i h
/-! labels -/
theorem labels_l (xs ys : List ByteArray) (hn : xs.length = ys.length) (hb : xs.length ≤ 140737488351232) (d i : Nat) (hd : d + i = xs.length) :
    Ev (fun k => limbeckref01_Same.l0 k xs ys i) (eqTexts (xs.drop i) (ys.drop i)) := by
  unfold eqTexts
  induction d generalizing i with
  | zero =>
    rw [two_end _ _ _ _ (by omega) (by omega)]
    exact Ev.step (fun _ => rfl) (Ev.neg (by omega) (Ev.step (f := fun _ => some true) (fun _ => rfl) (Ev.rets rfl)))
  | succ d ih =>
    rw [two_step _ _ _ i (by omega) (by omega)]
    refine Ev.step (fun _ => rfl) (Ev.pos (by omega) ?_)
    rw [decide_eq_true (show (i : Int) < (ys.length : Int) by omega)]
    refine Ev.step (fun _ => rfl) (Ev.pos (by omega) (Ev.pos (by omega) ?_))
    rw [rdOf_at _ xs i (by omega), rdOf_at _ ys i (by omega), wrap_up (by omega)]
    by_cases e : xs[i].toList = ys[i].toList
    · rw [show eqText xs[i] ys[i] = true by unfold eqText; rw [e]; simp, Bool.true_and]
      exact Ev.pos e (ih (i + 1) (by omega))
    · rw [show eqText xs[i] ys[i] = false by unfold eqText; exact beq_eq_false_iff_ne.mpr e, Bool.false_and]
      exact Ev.neg e (Ev.rets rfl)
theorem labels_f (xs ys : List ByteArray) (hb : xs.length ≤ 140737488351232) : Ev (fun k => limbeckref01_Same.f k xs ys) (eqTexts xs ys) := by
  unfold limbeckref01_Same.f
  by_cases h : xs.length = ys.length
  · exact Ev.pos (by omega) (labels_l xs ys h hb xs.length 0 (by omega))
  · rw [show eqTexts xs ys = false from allTwo_ne h]
    exact Ev.neg (by omega) (Ev.rets rfl)
/-- Lists as long as there may be, at each place. -/
inductive Okt : S25 → Prop
  | mk (x : S25) (h3 : x.f3.length ≤ 140737488351232) (h4 : x.f4.length * 80 ≤ 140737488351232) (hs : ∀ y, y ∈ x.f4 → Okt y) : Okt x
theorem Okt.l3 {x : S25} (h : Okt x) : x.f3.length ≤ 140737488351232 := by cases h; assumption
theorem Okt.l80 {x : S25} (h : Okt x) : x.f4.length * 80 ≤ 140737488351232 := by cases h; assumption
theorem Okt.l4 {x : S25} (h : Okt x) : x.f4.length ≤ 140737488351232 := by have := h.l80; omega
theorem Okt.all {x : S25} (h : Okt x) : ∀ y, y ∈ x.f4 → Okt y := by cases h; assumption
/-! types -/
theorem wrap_ok {i : Int} (h0 : -9223372036854775808 ≤ i) (h1 : i ≤ 9223372036854775807) : wrap64 i = i := by unfold wrap64; omega
theorem rdT_mem (l : List S25) (i : Nat) (h : i < l.length) : rd_T25 l (i : Int) ∈ l := by
  unfold rd_T25
  rw [Int.toNat_natCast, List.getD_eq_getElem?_getD, List.getElem?_eq_getElem h]
  exact List.getElem_mem h
theorem much_l1 (a0 a1 : Int) (a2 : ByteArray) (l3 : List ByteArray) (l4 : List S25) (hl : l4.length * 80 ≤ 140737488351232) (hs : ∀ y, y ∈ l4 → ∃ r, Ev (fun k => limbecklaw04_Much.f k y.f0 y.f1 y.f2 y.f3 y.f4) r) (d i : Nat) (hd : d + i = l4.length) (x3 : Int) :
    ∃ r, Ev (fun k => limbecklaw04_Much.l1 k x3 i a0 a1 a2 l3 l4) r := by
  induction d generalizing i x3 with
  | zero => exact ⟨_, Ev.step (fun _ => rfl) (Ev.neg (by omega) (Ev.rets rfl))⟩
  | succ d ih =>
    by_cases h : x3 < 3000
    · obtain ⟨t, ht⟩ := hs _ (rdT_mem l4 i (by omega))
      obtain ⟨r, hr⟩ := ih (i + 1) (by omega) (wrap64 (x3 + t))
      refine ⟨r, Ev.step (fun _ => rfl) (Ev.pos (by omega) (Ev.pos h (Ev.pos (by omega) (Ev.bind ht ?_))))⟩
      rw [wrap_ok (show -9223372036854775808 ≤ (i : Int) + 1 by omega) (by omega)]
      exact hr
    · exact ⟨_, Ev.step (fun _ => rfl) (Ev.pos (by omega) (Ev.neg h (Ev.rets rfl)))⟩
theorem much_l0 (a0 a1 : Int) (a2 : ByteArray) (l3 : List ByteArray) (l4 : List S25) (hl : l4.length * 80 ≤ 140737488351232) (hs : ∀ y, y ∈ l4 → ∃ r, Ev (fun k => limbecklaw04_Much.f k y.f0 y.f1 y.f2 y.f3 y.f4) r) (d i : Nat) (hd : d + i = l3.length) (x3 : Int) :
    ∃ r, Ev (fun k => limbecklaw04_Much.l0 k x3 i a0 a1 a2 l3 l4) r := by
  have hj : ∀ x, ∃ r, Ev (fun k => limbecklaw04_Much.j1 k x a0 a1 a2 l3 l4) r := fun x => by
    obtain ⟨r, hr⟩ := much_l1 a0 a1 a2 l3 l4 hl hs l4.length 0 (by omega) x
    exact ⟨r, Ev.step (fun _ => rfl) hr⟩
  induction d generalizing i x3 with
  | zero =>
    obtain ⟨r, hr⟩ := hj x3
    exact ⟨r, Ev.step (fun _ => rfl) (Ev.neg (by omega) hr)⟩
  | succ d ih =>
    by_cases h : (i : Int) < 1000
    · obtain ⟨r, hr⟩ := ih (i + 1) (by omega) (wrap64 (x3 + (wrap64 (((rdOf ByteArray.empty l3 i).size : Int) / 8))))
      refine ⟨r, Ev.step (fun _ => rfl) (Ev.pos (by omega) (Ev.pos h (Ev.pos (by omega) ?_)))⟩
      rw [wrap_ok (show -9223372036854775808 ≤ (i : Int) + 1 by omega) (by omega)]
      exact hr
    · obtain ⟨r, hr⟩ := hj x3
      exact ⟨r, Ev.step (fun _ => rfl) (Ev.pos (by omega) (Ev.neg h hr))⟩
theorem much_told : ∀ (n : Nat) (x : S25), SizeOf.sizeOf x < n → Okt x → ∃ r, Ev (fun k => limbecklaw04_Much.f k x.f0 x.f1 x.f2 x.f3 x.f4) r
  | 0, _, h, _ => absurd h (Nat.not_lt_zero _)
  | n + 1, x, h, ho => by
    obtain ⟨r, hr⟩ := much_l0 x.f0 x.f1 x.f2 x.f3 x.f4 ho.l80 (fun y hy => much_told n y (by have := size_args x y hy; omega) (ho.all y hy)) x.f3.length 0 (by omega) (wrap64 ((wrap64 (1 + (wrap64 ((x.f2.size : Int) / 8)))) + (x.f3.length : Int)))
    exact ⟨r, Ev.step (fun _ => rfl) hr⟩
theorem told {x : S25} (o : Okt x) : ∃ k r, limbecklaw04_Much.f k x.f0 x.f1 x.f2 x.f3 x.f4 = some r := by
  obtain ⟨r, hr⟩ := much_told _ x (Nat.lt_succ_self _) o
  obtain ⟨k, hk⟩ := hr.rounds
  exact ⟨k, r, hk⟩
end Go.Proofs.Ytnfnhjhnfdkinaa.PConvBack

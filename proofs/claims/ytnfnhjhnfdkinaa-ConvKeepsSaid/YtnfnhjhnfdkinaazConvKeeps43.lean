/-
  ConvKeeps: texts of this claim, put together by a program of this session. No conditions beyond what each lemma says.
-/
import Derived.Test.YtnfnhjhnfdkinaazConvKeeps42
namespace Go.Proofs.Ytnfnhjhnfdkinaa.PConvBack
open Go.RowKit Go.Proofs.YtnfnhjhnfdkinaaW.Mine Go.Proofs.YtnfnhjhnfdkinaaW.PrintWords Go.Proofs.YtnfnhjhnfdkinaaW.PrintLast Go.Proofs.YtnfnhjhnfdkinaaW.PrintMore
set_option linter.unusedVariables false
set_option linter.unusedSimpArgs false
def zipM (f : Vl → Ty → Option Vl) : List Vl → List Ty → Option (List Vl)
  | a :: l, b :: m => match f a b with
    | none => none
    | some x => match zipM f l m with
      | none => none
      | some xs => some (x :: xs)
  | _, _ => some []
theorem parts_zip {f : Vl → Ty → Option Vl} {v : Vl} {p : Ty} (h4 : v.f0 = 4) (h8 : p.f0 = 8) (hl : v.f7 = p.f3) (hn : p.f3.Nodup) (h1 : v.f8.length = p.f3.length) (h2 : p.f4.length = p.f3.length) :
    ∀ (d i : Nat), d + i = p.f3.length → partsV f v p (p.f3.drop i) = zipM f (v.f8.drop i) (p.f4.drop i)
  | 0, i, h => by
    rw [List.drop_eq_nil_of_le (by omega), List.drop_eq_nil_of_le (show v.f8.length ≤ i by omega)]
    simp only [partsV, zipM]
  | d + 1, i, h => by
    have hi : i < p.f3.length := by omega
    have ih := parts_zip h4 h8 hl hn h1 h2 (f := f) d (i + 1) (by omega)
    have hx : pix p.f3 p.f3[i] = (i : Int) := pix_at hi ((text_iff _ _).2 rfl) (fun j hj hji => by
      cases he : eqText p.f3[j] p.f3[i] with
      | false => rfl
      | true =>
        have h5 := (text_iff _ _).1 he
        exact absurd h5 (List.pairwise_iff_getElem.1 hn j i hj hi hji))
    have hv : fieldV v p.f3[i] = some (v.f8[i]'(by omega)) := fieldV_yes h4 (by rw [hl]; exact hx) (by omega)
    have ht : fieldT p p.f3[i] = some (p.f4[i]'(by omega)) := fieldT_yes h8 hx (by omega)
    rw [List.drop_eq_getElem_cons hi, List.drop_eq_getElem_cons (show i < v.f8.length by omega), List.drop_eq_getElem_cons (show i < p.f4.length by omega)]
    simp only [partsV, zipM, partV, hv, ht, ih]
    rfl
theorem record_zip {f : Vl → Ty → Option Vl} {v : Vl} {p : Ty} (h4 : v.f0 = 4) (h8 : p.f0 = 8) (hl : v.f7 = p.f3) (hn : p.f3.Nodup) (h1 : v.f8.length = p.f3.length) (h2 : p.f4.length = p.f3.length) {ks : List Vl} (hz : zipM f v.f8 p.f4 = some ks) :
    recordV f v p = some ⟨4, 0, 0, false, ⟨#[]⟩, z52, [], p.f3, ks⟩ := by
  have h := parts_zip h4 h8 hl hn h1 h2 (f := f) p.f3.length 0 (by omega)
  simp only [List.drop_zero] at h
  unfold recordV
  rw [h, hz]
/-- A right type, as far as it counts here. -/
inductive Rp : Ty → Prop
  | mk (x : Ty) (h8 : x.f0 = 8 → x.f4.length = x.f3.length ∧ x.f3.Nodup) (h4 : x.f0 = 7 ∨ x.f0 = 8 ∨ x.f4 = []) (hs : ∀ y, y ∈ x.f4 → Rp y) : Rp x
theorem Rp.eight {x : Ty} (h : Rp x) (h8 : x.f0 = 8) : x.f4.length = x.f3.length ∧ x.f3.Nodup := by cases h with | mk _ a b c => exact a h8
theorem Rp.none {x : Ty} (h : Rp x) : x.f0 = 7 ∨ x.f0 = 8 ∨ x.f4 = [] := by cases h with | mk _ a b c => exact b
theorem Rp.all {x : Ty} (h : Rp x) : ∀ y, y ∈ x.f4 → Rp y := by cases h with | mk _ a b c => exact c
theorem sealB_congr {l : List Se} {f g : Vl → Ty → Bool} {v : Vl} (h : ∀ y, y ∈ v.f8 → ∀ t, f y t = g y t) : sealB l f v = sealB l g v := by
  unfold sealB
  split
  · split
    · rename_i h1
      rw [List.getD_eq_getElem?_getD, List.getElem?_eq_getElem (by omega)]
      exact h _ (List.getElem_mem _) _
    · rfl
  · rfl
theorem allTwo_congr {f g : Vl → Ty → Bool} : ∀ {l : List Vl} {m : List Ty}, (∀ y, y ∈ l → ∀ t, f y t = g y t) → allTwo f l m = allTwo g l m
  | [], [], _ => rfl
  | a :: l, b :: m, h => by
    simp only [allTwo]
    rw [h a (List.mem_cons_self ..) b, allTwo_congr (l := l) (m := m) (fun y hy => h y (List.mem_cons_of_mem _ hy))]
  | [], _ :: _, _ => rfl
  | _ :: _, [], _ => rfl
theorem all_congr {f g : Vl → Bool} : ∀ {l : List Vl}, (∀ y, y ∈ l → f y = g y) → l.all f = l.all g
  | [], _ => rfl
  | a :: l, h => by
    simp only [List.all_cons]
    rw [h a (List.mem_cons_self ..), all_congr (l := l) (fun y hy => h y (List.mem_cons_of_mem _ hy))]
theorem isB_fuel (l : List Se) : ∀ (n m : Nat) (v : Vl), SizeOf.sizeOf v < n → SizeOf.sizeOf v < m → ∀ t, isB l n v t = isB l m v t
  | 0, _, _, h, _, _ => absurd h (Nat.not_lt_zero _)
  | _, 0, _, _, h, _ => absurd h (Nat.not_lt_zero _)
  | n + 1, m + 1, v, h, h', t => by
    have hs : ∀ y, y ∈ v.f8 → ∀ t, isB l n y t = isB l m y t := fun y hy t => by
      have := size_kids v y hy
      exact isB_fuel l n m y (by omega) (by omega) t
    rw [isB_succ, isB_succ, sealB_congr hs, allTwo_congr hs, all_congr (fun y hy => hs y hy dynT)]
/-- A value is of a type. -/
def IsT (l : List Se) (v : Vl) (t : Ty) : Prop := isB l (SizeOf.sizeOf v + 1) v t = true
theorem IsT.of {l : List Se} {v : Vl} {t : Ty} {n : Nat} (hn : SizeOf.sizeOf v < n) (h : isB l n v t = true) : IsT l v t := by
  unfold IsT; rw [isB_fuel l _ n v (Nat.lt_succ_self _) hn]; exact h
theorem IsT.to {l : List Se} {v : Vl} {t : Ty} {n : Nat} (hn : SizeOf.sizeOf v < n) (h : IsT l v t) : isB l n v t = true := by
  unfold IsT at h; rw [isB_fuel l n _ v hn (Nat.lt_succ_self _)]; exact h
theorem IsT.rec8 {l : List Se} {v : Vl} {t : Ty} (h8 : t.f0 = 8) (h : IsT l v t) : v.f0 = 4 ∧ v.f7 = t.f3 ∧ v.f8.length = t.f4.length ∧ ∀ j (hj : j < v.f8.length) (hj' : j < t.f4.length), IsT l v.f8[j] t.f4[j] := by
  unfold IsT at h
  rw [isB_8 h8] at h
  split at h
  · rename_i hc
    refine ⟨hc.1, hc.2.1, hc.2.2, fun j hj hj' => ?_⟩
    cases he : isB l (SizeOf.sizeOf v) v.f8[j] t.f4[j] with
    | true => exact IsT.of (size_kids v _ (List.getElem_mem hj)) he
    | false => rw [allTwo_not j hj hj' he] at h; cases h
  · cases h
theorem IsT.mk8 {l : List Se} {v : Vl} {t : Ty} (h8 : t.f0 = 8) (h0 : v.f0 = 4) (h7 : v.f7 = t.f3) (hl : v.f8.length = t.f4.length) (h : ∀ j (hj : j < v.f8.length) (hj' : j < t.f4.length), IsT l v.f8[j] t.f4[j]) : IsT l v t := by
  unfold IsT
  rw [isB_8 h8, if_pos ⟨h0, h7, hl⟩]
  exact allTwo_all hl fun j hj hj' => (h j hj hj').to (size_kids v _ (List.getElem_mem hj))
theorem IsT.seal9 {l : List Se} {v : Vl} {t : Ty} (h9 : t.f0 = 9) (h : IsT l v t) : v.f0 = 8 ∧ v.f1 = t.f1 ∧ ∃ i : Nat, ∃ hi : i < l.length, v.f1 = (i : Int) ∧ ∃ h1 : v.f8.length = 1, IsT l (v.f8[0]'(by omega)) l[i].f0 := by
  unfold IsT at h
  rw [isB_9 h9] at h
  split at h
  · rename_i h0
    split at h
    · rename_i h1
      refine ⟨h0, h1, ?_⟩
      by_cases hr : 0 ≤ v.f1 ∧ v.f1 < (l.length : Int)
      · by_cases hk : v.f8.length = 1
        · have hi : v.f1.toNat < l.length := by omega
          have he : v.f1 = ((v.f1.toNat : Nat) : Int) := by omega
          refine ⟨v.f1.toNat, hi, he, hk, ?_⟩
          rw [sealB_yes hi he hk] at h
          exact IsT.of (size_kids v _ (List.getElem_mem _)) h
        · rw [sealB_no1 hk] at h; cases h
      · rw [sealB_no hr] at h; cases h
    · cases h
  · cases h
theorem IsT.mk9 {l : List Se} {v : Vl} {t : Ty} {i : Nat} (h9 : t.f0 = 9) (h0 : v.f0 = 8) (h1 : v.f1 = t.f1) (hi : i < l.length) (he : v.f1 = (i : Int)) (hk : v.f8.length = 1) (h : IsT l (v.f8[0]'(by omega)) l[i].f0) : IsT l v t := by
  unfold IsT
  rw [isB_9 h9, if_pos h0, if_pos h1, sealB_yes hi he hk]
  exact h.to (size_kids v _ (List.getElem_mem _))
theorem IsT.fun7 {l : List Se} {v : Vl} {t : Ty} (h7 : t.f0 = 7) : IsT l v t ↔ funB v = true := by unfold IsT; rw [isB_7 h7]
/-- What seals hide, from one on. -/
def repsL (l : List Se) (a : Nat) : List Ty := (l.drop a).map (fun s => s.f0)
theorem repsL_len (l : List Se) (a : Nat) : (repsL l a).length = l.length - a := by unfold repsL; rw [List.length_map, List.length_drop]
abbrev opF (l : List Se) (a : Nat) : Ty → Option Ty := turnOpen true (a : Int) (repsL l a)
theorem opF_no {l : List Se} {a : Nat} {x : Ty} (h : freshB (a : Int) (l.length : Int) x = false) : opF l a x = none := turnOpen_no fun hc => by
  have h1 := hc.2.2.2
  rw [repsL_len] at h1
  unfold freshB at h
  rw [decide_eq_true hc.2.1, decide_eq_true hc.2.2.1, decide_eq_true (show x.f1 < (l.length : Int) by omega)] at h
  cases h
theorem opF_yes {l : List Se} {a i : Nat} {x : Ty} (h9 : x.f0 = 9) (he : x.f1 = (i : Int)) (ha : a ≤ i) (hi : i < l.length) : opF l a x = some l[i].f0 := by
  have h := turnOpen_yes (a := (a : Int)) (l := repsL l a) (x := x) (i := i - a) h9 (by omega) (by rw [repsL_len]; omega)
  unfold opF
  rw [h]
  congr 1
  unfold repsL
  rw [List.getElem_map, List.getElem_drop]
  congr 2
  omega
theorem opF_nine {l : List Se} {a : Nat} {x u : Ty} (h : opF l a x = some u) : x.f0 = 9 := by
  by_cases h9 : x.f0 = 9
  · exact h9
  · rw [opF_no (by unfold freshB; rw [decide_eq_false h9]; rfl)] at h; cases h
mutual
theorem plain_has (l : List Se) (a : Nat) : ∀ (p : Ty), hasB (a : Int) (l.length : Int) p = false → plain (opF l a) p = p
  | ⟨a0, a1, a2, a3, a4⟩, h => by
    rw [hasB_eq, Bool.or_eq_false_iff] at h
    rw [plain_eq, opF_no h.1]
    simp only [plainAll_has l a a4 h.2]
theorem plainAll_has (l : List Se) (a : Nat) : ∀ (m : List Ty), anyB (a : Int) (l.length : Int) m = false → plainAll (opF l a) m = m
  | [], _ => plainAll_nil _
  | x :: m, h => by
    rw [anyB_cons, Bool.or_eq_false_iff] at h
    rw [plainAll_cons, plain_has l a x h.1, plainAll_has l a m h.2]
end
theorem plain_not9 {l : List Se} {a : Nat} {p : Ty} (h : ¬ p.f0 = 9) : plain (opF l a) p = ⟨p.f0, p.f1, p.f2, p.f3, p.f4.map (plain (opF l a))⟩ := by
  rw [plain_eq, opF_no (by unfold freshB; rw [decide_eq_false h]; rfl), plainAll_map]
theorem has_nine {l : List Se} {a : Nat} {p : Ty} (hp : Rp p) (hh : hasB (a : Int) (l.length : Int) p = true) (h9 : p.f0 = 9) : ∃ i : Nat, p.f1 = (i : Int) ∧ a ≤ i ∧ i < l.length := by
  rcases hp.none with h | h | h
  · omega
  · omega
  · rw [hasB_eq, h, anyB_nil, Bool.or_false] at hh
    unfold freshB at hh
    simp only [Bool.and_eq_true, decide_eq_true_eq] at hh
    exact ⟨p.f1.toNat, by omega, by omega, by omega⟩
theorem has_kind {lo up : Int} {p : Ty} (hp : Rp p) (hh : hasB lo up p = true) : p.f0 = 9 ∨ p.f0 = 7 ∨ p.f0 = 8 := by
  rcases hp.none with h | h | h
  · exact .inr (.inl h)
  · exact .inr (.inr h)
  · rw [hasB_eq, h, anyB_nil, Bool.or_false] at hh
    unfold freshB at hh
    simp only [Bool.and_eq_true, decide_eq_true_eq] at hh
    exact .inl hh.1
theorem zip_some {f : Vl → Ty → Option Vl} {R : Vl → Ty → Vl → Prop} : ∀ {l : List Vl} {m : List Ty}, l.length = m.length → (∀ j (h : j < l.length) (h' : j < m.length), ∃ x, f l[j] m[j] = some x ∧ R l[j] m[j] x) →
    ∃ xs, zipM f l m = some xs ∧ ∃ hx : xs.length = m.length, ∀ j (h : j < l.length) (h' : j < m.length), R l[j] m[j] (xs[j]'(by omega))
  | [], [], _, _ => ⟨[], rfl, rfl, fun j h => absurd h (Nat.not_lt_zero _)⟩
  | a :: l, b :: m, he, h => by
    obtain ⟨x, hx, rx⟩ := h 0 (by simp) (by simp)
    obtain ⟨xs, hz, hlen, hr⟩ := zip_some (f := f) (R := R) (l := l) (m := m) (by simpa using he) (fun j h1 h2 => h (j + 1) (by simpa using h1) (by simpa using h2))
    simp only [List.getElem_cons_zero] at hx rx
    refine ⟨x :: xs, by simp only [zipM, hx, hz], by simp [hlen], fun j h1 h2 => ?_⟩
    cases j with
    | zero => exact rx
    | succ j => exact hr j (by simpa using h1) (by simpa using h2)
  | [], _ :: _, he, _ => by simp at he
  | _ :: _, [], he, _ => by simp at he
/-- Sealed, a value of the type with what the seals hide is of the type with the seals. -/
theorem keeps_in (l : List Se) (a : Nat) : ∀ (N : Nat) (p : Ty), SizeOf.sizeOf p < N → Rp p → ∀ v, IsT l v (plain (opF l a) p) → ∃ x, turnV (a : Int) (l.length : Int) true N v p = some x ∧ IsT l x p
  | 0, _, h, _, _, _ => absurd h (Nat.not_lt_zero _)
  | N + 1, p, h, hp, v, hv => by
    cases hh : hasB (a : Int) (l.length : Int) p with
    | false => rw [plain_has l a p hh] at hv; exact ⟨v, turnV_no hh, hv⟩
    | true =>
      by_cases h9 : p.f0 = 9
      · obtain ⟨i, he, ha, hi⟩ := has_nine hp hh h9
        rw [plain_eq, opF_yes h9 he ha hi] at hv
        have hv' : IsT l v l[i].f0 := hv
        exact ⟨⟨8, p.f1, 0, false, ⟨#[]⟩, z52, [], [], [v]⟩, by rw [turnV_seal hh h9, sealV_in], IsT.mk9 (i := i) h9 rfl rfl hi he rfl hv'⟩
      · rw [plain_not9 h9] at hv
        rcases has_kind hp hh with h | h7 | h8
        · exact absurd h h9
        · have hf := (IsT.fun7 (show (⟨p.f0, p.f1, p.f2, p.f3, p.f4.map (plain (opF l a))⟩ : Ty).f0 = 7 from h7)).1 hv
          refine ⟨_, by rw [turnV_fun hh h7]; unfold functionV; rw [if_pos hf], (IsT.fun7 h7).2 (by rfl)⟩
        · obtain ⟨e1, e2⟩ := hp.eight h8
          obtain ⟨g0, g7, gl, gk⟩ := hv.rec8 (show (⟨p.f0, p.f1, p.f2, p.f3, p.f4.map (plain (opF l a))⟩ : Ty).f0 = 8 from h8)
          have gl' : v.f8.length = p.f4.length := by rw [gl]; exact List.length_map _
          obtain ⟨ks, hz, hlen, hk⟩ := zip_some (f := turnV (a : Int) (l.length : Int) true N) (R := fun _ y x => IsT l x y) (l := v.f8) (m := p.f4) gl' (fun j hj hj' => by
            have hm := List.getElem_mem hj'
            have := size_args p _ hm
            have hj2 := gk j hj (by show j < (p.f4.map (plain (opF l a))).length; rw [List.length_map]; exact hj')
            simp only [List.getElem_map] at hj2
            exact keeps_in l a N _ (by omega) (hp.all _ hm) _ hj2)
          refine ⟨_, by rw [turnV_rec hh h8]; exact record_zip g0 h8 g7 e2 (by omega) e1 hz, IsT.mk8 h8 rfl rfl hlen (fun j hj hj' => hk j (by omega) hj')⟩
/-- Unsealed, a value of the type with the seals is of the type with what they hide. -/
theorem keeps_out (l : List Se) (a : Nat) : ∀ (N : Nat) (p : Ty), SizeOf.sizeOf p < N → Rp p → ∀ v, IsT l v p → ∃ x, turnV (a : Int) (l.length : Int) false N v p = some x ∧ IsT l x (plain (opF l a) p)
  | 0, _, h, _, _, _ => absurd h (Nat.not_lt_zero _)
  | N + 1, p, h, hp, v, hv => by
    cases hh : hasB (a : Int) (l.length : Int) p with
    | false => rw [plain_has l a p hh]; exact ⟨v, turnV_no hh, hv⟩
    | true =>
      by_cases h9 : p.f0 = 9
      · obtain ⟨i, he, ha, hi⟩ := has_nine hp hh h9
        obtain ⟨g0, g1, j, hj, ej, hk, hr⟩ := hv.seal9 h9
        have e : j = i := by omega
        subst e
        rw [plain_eq, opF_yes h9 he ha hi]
        exact ⟨_, by rw [turnV_seal hh h9, sealV_yes g0 g1 hk], hr⟩
      · rw [plain_not9 h9]
        rcases has_kind hp hh with h | h7 | h8
        · exact absurd h h9
        · have hf := (IsT.fun7 h7).1 hv
          refine ⟨_, by rw [turnV_fun hh h7]; unfold functionV; rw [if_pos hf], (IsT.fun7 (by exact h7)).2 (by rfl)⟩
        · obtain ⟨e1, e2⟩ := hp.eight h8
          obtain ⟨g0, g7, gl, gk⟩ := hv.rec8 h8
          obtain ⟨ks, hz, hlen, hk⟩ := zip_some (f := turnV (a : Int) (l.length : Int) false N) (R := fun _ y x => IsT l x (plain (opF l a) y)) (l := v.f8) (m := p.f4) gl (fun j hj hj' => by
            have hm := List.getElem_mem hj'
            have := size_args p _ hm
            exact keeps_out l a N _ (by omega) (hp.all _ hm) _ (gk j hj hj'))
          refine ⟨_, by rw [turnV_rec hh h8]; exact record_zip g0 h8 g7 e2 (by omega) e1 hz, IsT.mk8 (by exact h8) rfl rfl (by rw [List.length_map]; exact hlen) (fun j hj hj' => ?_)⟩
          simp only [List.getElem_map]
          simp only [List.length_map] at hj'
          exact hk j (by omega) hj'
end Go.Proofs.Ytnfnhjhnfdkinaa.PConvBack

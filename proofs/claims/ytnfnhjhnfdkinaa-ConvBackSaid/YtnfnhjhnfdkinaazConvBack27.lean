/-
  ConvBack: texts of this claim, put together by a program of this session. No conditions beyond what each lemma says.
-/
import Derived.Test.YtnfnhjhnfdkinaazConvBack26
import Derived.Test.YtnfnhjhnfdkinaazConvBack18
import Derived.Test.YtnfnhjhnfdkinaazConvBack16
import Derived.Test.YtnfnhjhnfdkinaazConvBack19
import Derived.Test.YtnfnhjhnfdkinaazConvBack12
namespace Go.Proofs.Ytnfnhjhnfdkinaa.PConvBack
open Go.RowKit Go.Proofs.YtnfnhjhnfdkinaaW.Mine Go.Proofs.YtnfnhjhnfdkinaaW.PrintWords Go.Proofs.YtnfnhjhnfdkinaaW.PrintLast Go.Proofs.YtnfnhjhnfdkinaaW.PrintMore
set_option linter.unusedVariables false
set_option linter.unusedSimpArgs false
def zipM (f : Vl → Ty → Option Vl) : List Vl → List Ty → Option (List Vl)
  | a :: l, b :: m => match f a b with
    | none => none
    | some x => match zipM f l m with
      | none => none
      | some xs => some (x :: xs)
  | _, _ => some []
theorem parts_zip {f : Vl → Ty → Option Vl} {v : Vl} {p : Ty} (h4 : v.f0 = 4) (h8 : p.f0 = 8) (hl : v.f7 = p.f3) (hn : p.f3.Nodup) (h1 : v.f8.length = p.f3.length) (h2 : p.f4.length = p.f3.length) :
    ∀ (d i : Nat), d + i = p.f3.length → partsV f v p (p.f3.drop i) = zipM f (v.f8.drop i) (p.f4.drop i)
  | 0, i, h => by
    rw [List.drop_eq_nil_of_le (by omega), List.drop_eq_nil_of_le (show v.f8.length ≤ i by omega)]
    simp only [partsV, zipM]
  | d + 1, i, h => by
    have hi : i < p.f3.length := by omega
    have ih := parts_zip h4 h8 hl hn h1 h2 (f := f) d (i + 1) (by omega)
    have hx : pix p.f3 p.f3[i] = (i : Int) := pix_at hi ((text_iff _ _).2 rfl) (fun j hj hji => by
      cases he : eqText p.f3[j] p.f3[i] with
      | false => rfl
      | true =>
        have h5 := (text_iff _ _).1 he
        exact absurd h5 (List.pairwise_iff_getElem.1 hn j i hj hi hji))
    have hv : fieldV v p.f3[i] = some (v.f8[i]'(by omega)) := fieldV_yes h4 (by rw [hl]; exact hx) (by omega)
    have ht : fieldT p p.f3[i] = some (p.f4[i]'(by omega)) := fieldT_yes h8 hx (by omega)
    rw [List.drop_eq_getElem_cons hi, List.drop_eq_getElem_cons (show i < v.f8.length by omega), List.drop_eq_getElem_cons (show i < p.f4.length by omega)]
    simp only [partsV, zipM, partV, hv, ht, ih]
    rfl
theorem record_zip {f : Vl → Ty → Option Vl} {v : Vl} {p : Ty} (h4 : v.f0 = 4) (h8 : p.f0 = 8) (hl : v.f7 = p.f3) (hn : p.f3.Nodup) (h1 : v.f8.length = p.f3.length) (h2 : p.f4.length = p.f3.length) {ks : List Vl} (hz : zipM f v.f8 p.f4 = some ks) :
    recordV f v p = some ⟨4, 0, 0, false, ⟨#[]⟩, z52, [], p.f3, ks⟩ := by
  have h := parts_zip h4 h8 hl hn h1 h2 (f := f) p.f3.length 0 (by omega)
  simp only [List.drop_zero] at h
  unfold recordV
  rw [h, hz]
/-- A right type, as far as it counts here. -/
inductive Rp : Ty → Prop
  | mk (x : Ty) (h8 : x.f0 = 8 → x.f4.length = x.f3.length ∧ x.f3.Nodup) (h4 : x.f0 = 7 ∨ x.f0 = 8 ∨ x.f4 = []) (hs : ∀ y, y ∈ x.f4 → Rp y) : Rp x
theorem Rp.eight {x : Ty} (h : Rp x) (h8 : x.f0 = 8) : x.f4.length = x.f3.length ∧ x.f3.Nodup := by cases h with | mk _ a b c => exact a h8
theorem Rp.none {x : Ty} (h : Rp x) : x.f0 = 7 ∨ x.f0 = 8 ∨ x.f4 = [] := by cases h with | mk _ a b c => exact b
theorem Rp.all {x : Ty} (h : Rp x) : ∀ y, y ∈ x.f4 → Rp y := by cases h with | mk _ a b c => exact c
theorem sealB_congr {l : List Se} {f g : Vl → Ty → Bool} {v : Vl} (h : ∀ y, y ∈ v.f8 → ∀ t, f y t = g y t) : sealB l f v = sealB l g v := by
  unfold sealB
  split
  · split
    · rename_i h1
      rw [List.getD_eq_getElem?_getD, List.getElem?_eq_getElem (by omega)]
      exact h _ (List.getElem_mem _) _
    · rfl
  · rfl
theorem allTwo_congr {f g : Vl → Ty → Bool} : ∀ {l : List Vl} {m : List Ty}, (∀ y, y ∈ l → ∀ t, f y t = g y t) → allTwo f l m = allTwo g l m
  | [], [], _ => rfl
  | a :: l, b :: m, h => by
    simp only [allTwo]
    rw [h a (List.mem_cons_self ..) b, allTwo_congr (l := l) (m := m) (fun y hy => h y (List.mem_cons_of_mem _ hy))]
  | [], _ :: _, _ => rfl
  | _ :: _, [], _ => rfl
theorem all_congr {f g : Vl → Bool} : ∀ {l : List Vl}, (∀ y, y ∈ l → f y = g y) → l.all f = l.all g
  | [], _ => rfl
  | a :: l, h => by
    simp only [List.all_cons]
    rw [h a (List.mem_cons_self ..), all_congr (l := l) (fun y hy => h y (List.mem_cons_of_mem _ hy))]
theorem isB_fuel (l : List Se) : ∀ (n m : Nat) (v : Vl), SizeOf.sizeOf v < n → SizeOf.sizeOf v < m → ∀ t, isB l n v t = isB l m v t
  | 0, _, _, h, _, _ => absurd h (Nat.not_lt_zero _)
  | _, 0, _, _, h, _ => absurd h (Nat.not_lt_zero _)
  | n + 1, m + 1, v, h, h', t => by
    have hs : ∀ y, y ∈ v.f8 → ∀ t, isB l n y t = isB l m y t := fun y hy t => by
      have := size_kids v y hy
      exact isB_fuel l n m y (by omega) (by omega) t
    rw [isB_succ, isB_succ, sealB_congr hs, allTwo_congr hs, all_congr (fun y hy => hs y hy dynT)]
/-- A value is of a type. -/
def IsT (l : List Se) (v : Vl) (t : Ty) : Prop := isB l (SizeOf.sizeOf v + 1) v t = true
theorem IsT.of {l : List Se} {v : Vl} {t : Ty} {n : Nat} (hn : SizeOf.sizeOf v < n) (h : isB l n v t = true) : IsT l v t := by
  unfold IsT; rw [isB_fuel l _ n v (Nat.lt_succ_self _) hn]; exact h
theorem IsT.to {l : List Se} {v : Vl} {t : Ty} {n : Nat} (hn : SizeOf.sizeOf v < n) (h : IsT l v t) : isB l n v t = true := by
  unfold IsT at h; rw [isB_fuel l n _ v hn (Nat.lt_succ_self _)]; exact h
theorem IsT.rec8 {l : List Se} {v : Vl} {t : Ty} (h8 : t.f0 = 8) (h : IsT l v t) : v.f0 = 4 ∧ v.f7 = t.f3 ∧ v.f8.length = t.f4.length ∧ ∀ j (hj : j < v.f8.length) (hj' : j < t.f4.length), IsT l v.f8[j] t.f4[j] := by
  unfold IsT at h
  rw [isB_8 h8] at h
  split at h
  · rename_i hc
    refine ⟨hc.1, hc.2.1, hc.2.2, fun j hj hj' => ?_⟩
    cases he : isB l (SizeOf.sizeOf v) v.f8[j] t.f4[j] with
    | true => exact IsT.of (size_kids v _ (List.getElem_mem hj)) he
    | false => rw [allTwo_not j hj hj' he] at h; cases h
  · cases h
theorem IsT.seal9 {l : List Se} {v : Vl} {t : Ty} (h9 : t.f0 = 9) (h : IsT l v t) : v.f0 = 8 ∧ v.f1 = t.f1 ∧ ∃ i : Nat, ∃ hi : i < l.length, v.f1 = (i : Int) ∧ ∃ h1 : v.f8.length = 1, IsT l (v.f8[0]'(by omega)) l[i].f0 := by
  unfold IsT at h
  rw [isB_9 h9] at h
  split at h
  · rename_i h0
    split at h
    · rename_i h1
      refine ⟨h0, h1, ?_⟩
      by_cases hr : 0 ≤ v.f1 ∧ v.f1 < (l.length : Int)
      · by_cases hk : v.f8.length = 1
        · have hi : v.f1.toNat < l.length := by omega
          have he : v.f1 = ((v.f1.toNat : Nat) : Int) := by omega
          refine ⟨v.f1.toNat, hi, he, hk, ?_⟩
          rw [sealB_yes hi he hk] at h
          exact IsT.of (size_kids v _ (List.getElem_mem _)) h
        · rw [sealB_no1 hk] at h; cases h
      · rw [sealB_no hr] at h; cases h
    · cases h
  · cases h
/-- What seals hide, from one on. -/
def repsL (l : List Se) (a : Nat) : List Ty := (l.drop a).map (fun s => s.f0)
theorem repsL_len (l : List Se) (a : Nat) : (repsL l a).length = l.length - a := by unfold repsL; rw [List.length_map, List.length_drop]
abbrev opF (l : List Se) (a : Nat) : Ty → Option Ty := turnOpen true (a : Int) (repsL l a)
theorem opF_no {l : List Se} {a : Nat} {x : Ty} (h : freshB (a : Int) (l.length : Int) x = false) : opF l a x = none := turnOpen_no fun hc => by
  have h1 := hc.2.2.2
  rw [repsL_len] at h1
  unfold freshB at h
  rw [decide_eq_true hc.2.1, decide_eq_true hc.2.2.1, decide_eq_true (show x.f1 < (l.length : Int) by omega)] at h
  cases h
theorem opF_nine {l : List Se} {a : Nat} {x u : Ty} (h : opF l a x = some u) : x.f0 = 9 := by
  by_cases h9 : x.f0 = 9
  · exact h9
  · rw [opF_no (by unfold freshB; rw [decide_eq_false h9]; rfl)] at h; cases h
theorem plain_not9 {l : List Se} {a : Nat} {p : Ty} (h : ¬ p.f0 = 9) : plain (opF l a) p = ⟨p.f0, p.f1, p.f2, p.f3, p.f4.map (plain (opF l a))⟩ := by
  rw [plain_eq, opF_no (by unfold freshB; rw [decide_eq_false h]; rfl), plainAll_map]
theorem has_kind {lo up : Int} {p : Ty} (hp : Rp p) (hh : hasB lo up p = true) : p.f0 = 9 ∨ p.f0 = 7 ∨ p.f0 = 8 := by
  rcases hp.none with h | h | h
  · exact .inr (.inl h)
  · exact .inr (.inr h)
  · rw [hasB_eq, h, anyB_nil, Bool.or_false] at hh
    unfold freshB at hh
    simp only [Bool.and_eq_true, decide_eq_true_eq] at hh
    exact .inl hh.1
theorem zip_some {f : Vl → Ty → Option Vl} {R : Vl → Ty → Vl → Prop} : ∀ {l : List Vl} {m : List Ty}, l.length = m.length → (∀ j (h : j < l.length) (h' : j < m.length), ∃ x, f l[j] m[j] = some x ∧ R l[j] m[j] x) →
    ∃ xs, zipM f l m = some xs ∧ ∃ hx : xs.length = m.length, ∀ j (h : j < l.length) (h' : j < m.length), R l[j] m[j] (xs[j]'(by omega))
  | [], [], _, _ => ⟨[], rfl, rfl, fun j h => absurd h (Nat.not_lt_zero _)⟩
  | a :: l, b :: m, he, h => by
    obtain ⟨x, hx, rx⟩ := h 0 (by simp) (by simp)
    obtain ⟨xs, hz, hlen, hr⟩ := zip_some (f := f) (R := R) (l := l) (m := m) (by simpa using he) (fun j h1 h2 => h (j + 1) (by simpa using h1) (by simpa using h2))
    simp only [List.getElem_cons_zero] at hx rx
    refine ⟨x :: xs, by simp only [zipM, hx, hz], by simp [hlen], fun j h1 h2 => ?_⟩
    cases j with
    | zero => exact rx
    | succ j => exact hr j (by simpa using h1) (by simpa using h2)
  | [], _ :: _, he, _ => by simp at he
  | _ :: _, [], he, _ => by simp at he
theorem zip_of {f : Vl → Ty → Option Vl} : ∀ {l : List Vl} {m : List Ty} {ys : List Vl} (h1 : l.length = m.length) (h2 : ys.length = m.length), (∀ j (h : j < l.length) (h' : j < m.length) (h'' : j < ys.length), f l[j] m[j] = some ys[j]) → zipM f l m = some ys
  | [], [], [], _, _, _ => rfl
  | a :: l, b :: m, y :: ys, h1, h2, h => by
    have h0 := h 0 (by simp) (by simp) (by simp)
    have hr := zip_of (f := f) (l := l) (m := m) (ys := ys) (by simpa using h1) (by simpa using h2) (fun j a b c => h (j + 1) (by simpa using a) (by simpa using b) (by simpa using c))
    simp only [List.getElem_cons_zero] at h0
    simp only [zipM, h0, hr]
  | [], [], _ :: _, _, h2, _ => by simp at h2
  | _ :: _, _ :: _, [], _, h2, _ => by simp at h2
  | [], _ :: _, _, h1, _, _ => by simp at h1
  | _ :: _, [], _, h1, _, _ => by simp at h1
end Go.Proofs.Ytnfnhjhnfdkinaa.PConvBack
namespace Go.Proofs.Ytnfnhjhnfdkinaa.PConvBack
open Go.RowKit Go.Proofs.YtnfnhjhnfdkinaaW.Mine Go.Proofs.YtnfnhjhnfdkinaaW.PrintWords Go.Proofs.YtnfnhjhnfdkinaaW.PrintLast Go.Proofs.YtnfnhjhnfdkinaaW.PrintMore
set_option linter.unusedVariables false
set_option linter.unusedSimpArgs false
/-- A right value, as far as it counts here. -/
inductive Ownv : Vl → Prop
  | mk (x : Vl) (h4 : x.f0 = 4 → x = ⟨4, 0, 0, false, ⟨#[]⟩, z52, [], x.f7, x.f8⟩) (h8 : x.f0 = 8 → x = ⟨8, x.f1, 0, false, ⟨#[]⟩, z52, [], [], x.f8⟩) (hs : ∀ y, y ∈ x.f8 → Ownv y) : Ownv x
theorem Ownv.four {x : Vl} (h : Ownv x) (h4 : x.f0 = 4) : x = ⟨4, 0, 0, false, ⟨#[]⟩, z52, [], x.f7, x.f8⟩ := by cases h with | mk _ a b c => exact a h4
theorem Ownv.eight {x : Vl} (h : Ownv x) (h8 : x.f0 = 8) : x = ⟨8, x.f1, 0, false, ⟨#[]⟩, z52, [], [], x.f8⟩ := by cases h with | mk _ a b c => exact b h8
theorem Ownv.all {x : Vl} (h : Ownv x) : ∀ y, y ∈ x.f8 → Ownv y := by cases h with | mk _ a b c => exact c
/-- No functions. -/
inductive Nofun : Ty → Prop
  | mk (x : Ty) (h : ¬ x.f0 = 7) (hs : ∀ y, y ∈ x.f4 → Nofun y) : Nofun x
theorem Nofun.here {x : Ty} (h : Nofun x) : ¬ x.f0 = 7 := by cases h with | mk _ a b => exact a
theorem Nofun.all {x : Ty} (h : Nofun x) : ∀ y, y ∈ x.f4 → Nofun y := by cases h with | mk _ a b => exact b
theorem one_of {l : List Vl} (h : l.length = 1) : l = [l[0]'(by omega)] := by
  match l, h with
  | [a], _ => rfl
theorem back_in (l : List Se) (a : Nat) : ∀ (N : Nat) (p : Ty), SizeOf.sizeOf p < N → Rp p → Nofun p → ∀ v, Ownv v → IsT l v (plain (opF l a) p) → ∃ x, turnV (a : Int) (l.length : Int) true N v p = some x ∧ turnV (a : Int) (l.length : Int) false N x p = some v
  | 0, _, h, _, _, _, _, _ => absurd h (Nat.not_lt_zero _)
  | N + 1, p, h, hp, hn, v, ov, hv => by
    cases hh : hasB (a : Int) (l.length : Int) p with
    | false => exact ⟨v, turnV_no hh, turnV_no hh⟩
    | true =>
      by_cases h9 : p.f0 = 9
      · refine ⟨_, by rw [turnV_seal hh h9, sealV_in], ?_⟩
        rw [turnV_seal hh h9, sealV_yes rfl rfl rfl]
        rfl
      · rw [plain_not9 h9] at hv
        rcases has_kind hp hh with h | h7 | h8
        · exact absurd h h9
        · exact absurd h7 hn.here
        · obtain ⟨e1, e2⟩ := hp.eight h8
          obtain ⟨g0, g7, gl, gk⟩ := hv.rec8 (show (⟨p.f0, p.f1, p.f2, p.f3, p.f4.map (plain (opF l a))⟩ : Ty).f0 = 8 from h8)
          have g7 : v.f7 = p.f3 := g7
          have gl' : v.f8.length = p.f4.length := by rw [gl]; exact List.length_map _
          obtain ⟨ks, hz, hlen, hk⟩ := zip_some (f := turnV (a : Int) (l.length : Int) true N) (R := fun z y x => turnV (a : Int) (l.length : Int) false N x y = some z) (l := v.f8) (m := p.f4) gl' (fun j hj hj' => by
            have hm := List.getElem_mem hj'
            have := size_args p _ hm
            have hj2 := gk j hj (by show j < (p.f4.map (plain (opF l a))).length; rw [List.length_map]; exact hj')
            simp only [List.getElem_map] at hj2
            exact back_in l a N _ (by omega) (hp.all _ hm) (hn.all _ hm) _ (ov.all _ (List.getElem_mem hj)) hj2)
          refine ⟨_, by rw [turnV_rec hh h8]; exact record_zip g0 h8 g7 e2 (by omega) e1 hz, ?_⟩
          rw [turnV_rec hh h8, record_zip rfl h8 rfl e2 (by show ks.length = _; omega) e1 (ks := v.f8) (zip_of hlen gl' (fun j h1 h2 h3 => hk j h3 h2))]
          rw [ov.four g0, g7]
theorem back_out (l : List Se) (a : Nat) : ∀ (N : Nat) (p : Ty), SizeOf.sizeOf p < N → Rp p → Nofun p → ∀ v, Ownv v → IsT l v p → ∃ x, turnV (a : Int) (l.length : Int) false N v p = some x ∧ turnV (a : Int) (l.length : Int) true N x p = some v
  | 0, _, h, _, _, _, _, _ => absurd h (Nat.not_lt_zero _)
  | N + 1, p, h, hp, hn, v, ov, hv => by
    cases hh : hasB (a : Int) (l.length : Int) p with
    | false => exact ⟨v, turnV_no hh, turnV_no hh⟩
    | true =>
      by_cases h9 : p.f0 = 9
      · obtain ⟨g0, g1, j, hj, ej, hk, hr⟩ := hv.seal9 h9
        refine ⟨_, by rw [turnV_seal hh h9, sealV_yes g0 g1 hk], ?_⟩
        rw [turnV_seal hh h9, sealV_in, ← one_of hk, ← g1]
        rw [← ov.eight g0]
      · rcases has_kind hp hh with h | h7 | h8
        · exact absurd h h9
        · exact absurd h7 hn.here
        · obtain ⟨e1, e2⟩ := hp.eight h8
          obtain ⟨g0, g7, gl, gk⟩ := hv.rec8 h8
          obtain ⟨ks, hz, hlen, hk⟩ := zip_some (f := turnV (a : Int) (l.length : Int) false N) (R := fun z y x => turnV (a : Int) (l.length : Int) true N x y = some z) (l := v.f8) (m := p.f4) gl (fun j hj hj' => by
            have hm := List.getElem_mem hj'
            have := size_args p _ hm
            exact back_out l a N _ (by omega) (hp.all _ hm) (hn.all _ hm) _ (ov.all _ (List.getElem_mem hj)) (gk j hj hj'))
          refine ⟨_, by rw [turnV_rec hh h8]; exact record_zip g0 h8 g7 e2 (by omega) e1 hz, ?_⟩
          rw [turnV_rec hh h8, record_zip rfl h8 rfl e2 (by show ks.length = _; omega) e1 (ks := v.f8) (zip_of hlen gl (fun j h1 h2 h3 => hk j h3 h2))]
          rw [ov.four g0, g7]
/-- Few labels along records, as a value of the type is there. -/
theorem okr_of {l : List Se} {f : Ty → Option Ty} (hf : ∀ x u, f x = some u → x.f0 = 9) : ∀ (N : Nat) (p : Ty), SizeOf.sizeOf p < N → Rp p → ∀ v, Okv v → IsT l v (plain f p) → Okr p
  | 0, _, h, _, _, _, _ => absurd h (Nat.not_lt_zero _)
  | N + 1, p, h, hp, v, ov, hv => by
    by_cases h8 : p.f0 = 8
    · have e : plain f p = ⟨p.f0, p.f1, p.f2, p.f3, p.f4.map (plain f)⟩ := by
        rw [plain_eq, plainAll_map]
        cases hq : f p with
        | some u => have := hf p u hq; omega
        | none => rfl
      rw [e] at hv
      obtain ⟨e1, e2⟩ := hp.eight h8
      obtain ⟨g0, g7, gl, gk⟩ := hv.rec8 (show (⟨p.f0, p.f1, p.f2, p.f3, p.f4.map (plain f)⟩ : Ty).f0 = 8 from h8)
      have gl' : v.f8.length = p.f4.length := by rw [gl]; exact List.length_map _
      have o8 := ov.parts.2.2.2.1
      refine .mk p (fun _ => by omega) (fun _ y hy => ?_)
      obtain ⟨j, hj, rfl⟩ := List.mem_iff_getElem.1 hy
      have := size_args p _ hy
      have hj2 := gk j (by omega) (by show j < (p.f4.map (plain f)).length; rw [List.length_map]; exact hj)
      simp only [List.getElem_map] at hj2
      exact okr_of hf N _ (by omega) (hp.all _ hy) _ (ov.parts.2.2.2.2 _ (List.getElem_mem _)) hj2
    · exact .mk p (fun h => absurd h h8) (fun h => absurd h h8)
theorem parts_mem {f : Vl → Ty → Option Vl} {v : Vl} {p : Ty} : ∀ {l : List ByteArray} {xs : List Vl}, partsV f v p l = some xs → ∀ k, k ∈ xs → ∃ a b, a ∈ v.f8 ∧ b ∈ p.f4 ∧ f a b = some k
  | [], xs, h, k, hk => by simp only [partsV] at h; injection h with h; subst h; cases hk
  | s :: l, xs, h, k, hk => by
    simp only [partsV] at h
    split at h
    · cases h
    · rename_i x hx
      split at h
      · cases h
      · rename_i ys hy
        injection h with h
        subst h
        rcases List.mem_cons.1 hk with rfl | hk
        · unfold partV at hx
          split at hx
          · cases hx
          · rename_i a ha
            split at hx
            · cases hx
            · rename_i b hb
              exact ⟨a, b, fieldV_mem ha, fieldT_mem hb, hx⟩
        · exact parts_mem (l := l) hy k hk
theorem turn_okv (lo up : Int) (inn : Bool) : ∀ (N : Nat) (p : Ty), SizeOf.sizeOf p < N → Okt p → Okr p → ∀ v x, Okv v → turnV lo up inn N v p = some x → Okv x
  | 0, _, h, _, _, _, _, _, _ => absurd h (Nat.not_lt_zero _)
  | N + 1, p, h, op, orr, v, x, ov, he => by
    cases hh : hasB lo up p with
    | false => rw [turnV_no hh] at he; injection he with he; subst he; exact ov
    | true =>
      by_cases h9 : p.f0 = 9
      · rw [turnV_seal hh h9] at he
        unfold sealV at he
        split at he
        · injection he with he
          subst he
          exact .mk _ (by simp) (by simp) (by simp) (by simp) (by simpa using ov)
        · split at he
          · rename_i hc
            injection he with he
            subst he
            rw [List.getD_eq_getElem?_getD, List.getElem?_eq_getElem (by omega)]
            exact ov.parts.2.2.2.2 _ (List.getElem_mem _)
          · cases he
      · by_cases h7 : p.f0 = 7
        · rw [turnV_fun hh h7] at he
          unfold functionV at he
          split at he
          · injection he with he
            subst he
            exact .mk _ (by simp) (by simpa using op) (by simp) (by simp) (by simpa using ov)
          · cases he
        · by_cases h8 : p.f0 = 8
          · rw [turnV_rec hh h8] at he
            unfold recordV at he
            split at he
            · cases he
            · rename_i ks hk
              injection he with he
              subst he
              refine .mk _ (by simp) (by simp) op.l3 (by show ks.length * 144 ≤ _; rw [partsV_len hk]; exact orr.len h8) (fun y hy => ?_)
              obtain ⟨a, b, ha, hb, hf⟩ := parts_mem hk y hy
              have := size_args p _ hb
              exact turn_okv lo up inn N b (by omega) (op.all _ hb) (orr.all h8 _ hb) a y (ov.parts.2.2.2.2 _ ha) hf
          · rw [turnV_none hh h9 h7 h8] at he; cases he
theorem do_okv {lo up : Int} {inn : Bool} {p : Ty} {v x : Vl} (op : Okt p) (orr : Okr p) (ov : Okv v) (h : doV lo up inn v p = some x) : Okv x := turn_okv lo up inn _ p (Nat.lt_succ_self _) op orr v x ov h
theorem do_back {l : List Se} {a : Nat} {p : Ty} {v : Vl} (hp : Rp p) (hn : Nofun p) (ov : Ownv v) (hv : IsT l v (plain (opF l a) p)) : ∃ x, doV (a : Int) (l.length : Int) true v p = some x ∧ doV (a : Int) (l.length : Int) false x p = some v := back_in l a _ p (Nat.lt_succ_self _) hp hn v ov hv
theorem do_forth {l : List Se} {a : Nat} {p : Ty} {v : Vl} (hp : Rp p) (hn : Nofun p) (ov : Ownv v) (hv : IsT l v p) : ∃ x, doV (a : Int) (l.length : Int) false v p = some x ∧ doV (a : Int) (l.length : Int) true x p = some v := back_out l a _ p (Nat.lt_succ_self _) hp hn v ov hv
theorem okr_in {l : List Se} {a : Nat} {p : Ty} {v : Vl} (hp : Rp p) (ov : Okv v) (hv : IsT l v (plain (opF l a) p)) : Okr p := okr_of (fun x u h => opF_nine h) _ p (Nat.lt_succ_self _) hp v ov hv
theorem okr_out {l : List Se} {p : Ty} {v : Vl} (hp : Rp p) (ov : Okv v) (hv : IsT l v p) : Okr p := okr_of (f := fun _ => none) (fun x u h => by cases h) _ p (Nat.lt_succ_self _) hp v ov (by rw [plain_id _ (fun _ => rfl)]; exact hv)
end Go.Proofs.Ytnfnhjhnfdkinaa.PConvBack
namespace Go.Proofs.Ytnfnhjhnfdkinaa.PConvBack
open Go.RowKit Go.Proofs.YtnfnhjhnfdkinaaW.Mine Go.Proofs.YtnfnhjhnfdkinaaW.PrintWords Go.Proofs.YtnfnhjhnfdkinaaW.PrintLast Go.Proofs.YtnfnhjhnfdkinaaW.PrintMore
set_option linter.unusedVariables false
set_option linter.unusedSimpArgs false
/-- It answers, and what it answers is so. -/
def Tells {α : Type} (f : Nat → Option α) (P : α → Prop) : Prop := ∃ r, Ev f r ∧ P r
theorem Tells.step {α : Type} {g f : Nat → Option α} {P : α → Prop} (h : ∀ k, g (k + 1) = f k) (k : Tells f P) : Tells g P := by
  obtain ⟨r, h1, h2⟩ := k; exact ⟨r, Ev.step h h1, h2⟩
theorem Tells.ret {α : Type} {x : α} {P : α → Prop} (h : P x) : Tells (fun _ => some x) P := ⟨x, Ev.rets rfl, h⟩
theorem Tells.ite {α : Type} {c : Prop} [Decidable c] {f g : Nat → Option α} {P : α → Prop} (h1 : c → Tells f P) (h2 : ¬ c → Tells g P) : Tells (fun n => if c then f n else g n) P := by
  by_cases h : c
  · obtain ⟨r, k1, k2⟩ := h1 h; exact ⟨r, Ev.pos h k1, k2⟩
  · obtain ⟨r, k1, k2⟩ := h2 h; exact ⟨r, Ev.neg h k1, k2⟩
theorem Tells.yes {α : Type} {c : Prop} [Decidable c] {f g : Nat → Option α} {P : α → Prop} (h : c) (k : Tells f P) : Tells (fun n => if c then f n else g n) P := Tells.ite (fun _ => k) (fun h' => absurd h h')
theorem Tells.bind {α β : Type} {g : Nat → Option α} {f : Nat → α → Option β} {Q : α → Prop} {P : β → Prop} (h : Tells g Q) (k : ∀ a, Q a → Tells (fun n => f n a) P) : Tells (fun n => (g n).bind (f n)) P := by
  obtain ⟨a, h1, h2⟩ := h
  obtain ⟨r, h3, h4⟩ := k a h2
  exact ⟨r, Ev.bind h1 h3, h4⟩
theorem Tells.bindc {α β : Type} {x : Option α} {f : Nat → α → Option β} {P : β → Prop} (h : ∃ a, x = some a) (k : ∀ a, Tells (fun n => f n a) P) : Tells (fun n => x.bind (f n)) P := by
  obtain ⟨a, rfl⟩ := h
  exact k a
theorem Tells.mono {α : Type} {f : Nat → Option α} {P Q : α → Prop} (h : Tells f P) (k : ∀ a, P a → Q a) : Tells f Q := by
  obtain ⟨r, h1, h2⟩ := h; exact ⟨r, h1, k r h2⟩
/-- Words that are read. -/
inductive Okw : Ty → Prop
  | mk (x : Ty) (h2 : x.f2.size ≤ 140737488351232) (h3 : ∀ y, y ∈ x.f3 → y.size ≤ 140737488351232) (hs : ∀ y, y ∈ x.f4 → Okw y) : Okw x
theorem Okw.name {x : Ty} (h : Okw x) : x.f2.size ≤ 140737488351232 := by cases h; assumption
theorem Okw.words {x : Ty} (h : Okw x) : ∀ y, y ∈ x.f3 → y.size ≤ 140737488351232 := by cases h; assumption
theorem Okw.all {x : Ty} (h : Okw x) : ∀ y, y ∈ x.f4 → Okw y := by cases h; assumption
theorem kept_l1 (a : ByteArray) (xs : List ByteArray) (hx : xs.length < 1000) : ∀ (d i : Nat), d + i = xs.length → Tells (fun k => limbeckref01_Kept.l1 k a xs i) (fun _ => True)
  | 0, i, h => Tells.step (fun _ => rfl) (Tells.ite (fun h => by omega) (fun _ => Tells.ret trivial))
  | d + 1, i, h => Tells.step (fun _ => rfl) (Tells.ite (fun _ => Tells.yes (by omega) (Tells.ite (fun _ => Tells.ret trivial) (fun _ => by
      rw [wrap_in (show -9223372036854775808 ≤ (i : Int) + 1 by omega) (by omega)]
      exact kept_l1 a xs hx d (i + 1) (by omega)))) (fun _ => Tells.ret trivial))
theorem kept_l0 (a : ByteArray) (xs : List ByteArray) (hx : xs.length < 1000) : ∀ (d i : Nat), d + i = xs.length → Tells (fun k => limbeckref01_Kept.l0 k a xs i) (fun _ => True)
  | 0, i, h => Tells.step (fun _ => rfl) (Tells.ite (fun h => by omega) (fun _ => kept_l1 a _ (by decide) 4 0 (by decide)))
  | d + 1, i, h => Tells.step (fun _ => rfl) (Tells.ite (fun _ => Tells.yes (by omega) (Tells.ite (fun _ => Tells.ret trivial) (fun _ => by
      rw [wrap_in (show -9223372036854775808 ≤ (i : Int) + 1 by omega) (by omega)]
      exact kept_l0 a xs hx d (i + 1) (by omega)))) (fun h => absurd (show (i : Int) < (xs.length : Int) by omega) h))
theorem kept_told (a : ByteArray) : Tells (fun k => limbeckref01_Kept.f k a) (fun _ => True) := by
  unfold limbeckref01_Kept.f
  exact kept_l0 a _ (by decide) 10 0 (by decide)
theorem low_told (c : Int) : ∃ b, limbeckref01_Low.f c = some b := by unfold limbeckref01_Low.f; split <;> exact ⟨_, rfl⟩
theorem up_told (c : Int) : ∃ b, limbeckref01_Up.f c = some b := by unfold limbeckref01_Up.f; split <;> exact ⟨_, rfl⟩
theorem digit_told (c : Int) : ∃ b, limbeckref01_Digit.f c = some b := by unfold limbeckref01_Digit.f; split <;> exact ⟨_, rfl⟩
theorem kind_l0 (s : ByteArray) (hs : s.size ≤ 140737488351232) : ∀ (d i : Nat) (kind : Int), s.size ≤ d + i → i ≤ 140737488351233 → Tells (fun k => limbeckref01_Kind.l0 k s kind i) (fun _ => True)
  | 0, i, kind, h, _ => Tells.step (fun _ => rfl) (Tells.ite (fun h => by omega) (fun _ => Tells.ret trivial))
  | d + 1, i, kind, h, hi => by
    have hw : wrap64 ((i : Int) + 1) = ((i + 1 : Nat) : Int) := by rw [wrap_in (by omega) (by omega)]; rfl
    refine Tells.step (fun _ => rfl) (Tells.ite (fun hlt => Tells.yes (by omega) (Tells.bindc (digit_told _) (fun b1 => ?_))) (fun _ => Tells.ret trivial))
    have ih : ∀ kind, Tells (fun k => limbeckref01_Kind.l0 k s kind ((i + 1 : Nat) : Int)) (fun _ => True) := fun kind => kind_l0 s hs d (i + 1) kind (by omega) (by omega)
    rw [hw]
    exact Tells.ite (fun _ => ih _) (fun _ => Tells.bindc (low_told _) (fun b2 => Tells.ite (fun _ => ih _) (fun _ => Tells.bindc (up_told _) (fun b3 => Tells.ite (fun _ => Tells.ite (fun _ => Tells.ret trivial) (fun _ => ih _)) (fun _ => Tells.ret trivial)))))
theorem kind_told (a : ByteArray) (ha : a.size ≤ 140737488351232) : Tells (fun k => limbeckref01_Kind.f k a) (fun _ => True) := by
  have h2 : ∀ kind, Tells (fun k => limbeckref01_Kind.j2 k a kind) (fun _ => True) := fun kind => Tells.step (fun _ => rfl) (kind_l0 a ha a.size 1 kind (by omega) (by omega))
  have h1 : 0 < (a.size : Int) → ∀ kind, Tells (fun k => limbeckref01_Kind.j1 k a kind) (fun _ => True) := fun h0 kind => Tells.step (fun _ => rfl) (Tells.yes h0 (Tells.bindc (up_told _) (fun b => Tells.ite (fun _ => h2 _) (fun _ => h2 _))))
  have h0 : ∀ b, (b = false → 0 < (a.size : Int)) → Tells (fun k => limbeckref01_Kind.j0 k a b) (fun _ => True) := fun b hb => Tells.step (fun _ => rfl) (Tells.ite (fun _ => Tells.ret trivial) (fun h => by
    have h := hb (by simpa using h)
    exact Tells.yes h (Tells.bindc (low_told _) (fun b => Tells.ite (fun _ => h1 h _) (fun _ => h1 h _)))))
  unfold limbeckref01_Kind.f
  exact Tells.bind (kept_told a) (fun t _ => Tells.ite (fun _ => Tells.ite (fun _ => h0 _ (fun h => by cases h)) (fun h => h0 _ (fun _ => by omega))) (fun _ => Tells.ret trivial))
theorem fine_told (a : ByteArray) (ha : a.size ≤ 140737488351232) : Tells (fun k => limbeckref01_Fine.f k a) (fun _ => True) := by
  unfold limbeckref01_Fine.f
  exact Tells.bind (kind_told a ha) (fun _ _ => Tells.ret trivial)
theorem var_told (a : ByteArray) (ha : a.size ≤ 140737488351232) : Tells (fun k => limbeckref01_Var.f k a) (fun _ => True) := by
  unfold limbeckref01_Var.f
  exact Tells.bind (kind_told a ha) (fun _ _ => Tells.ret trivial)
theorem less_irrefl : ∀ (a : List UInt8), Op.bytesLess a a = false
  | [] => rfl
  | x :: a => by
    unfold Op.bytesLess
    rw [less_irrefl a]
    simp
theorem less_trans : ∀ (a b c : List UInt8), Op.bytesLess a b = true → Op.bytesLess b c = true → Op.bytesLess a c = true
  | _, [], _, h, _ => by simp [Op.bytesLess] at h
  | _, _ :: _, [], _, h => by simp [Op.bytesLess] at h
  | [], _ :: _, _ :: _, _, _ => rfl
  | x :: a, y :: b, z :: c, h1, h2 => by
    unfold Op.bytesLess at h1 h2 ⊢
    simp only [Bool.or_eq_true, Bool.and_eq_true, decide_eq_true_iff, beq_iff_eq] at h1 h2 ⊢
    rcases h1 with h1 | ⟨rfl, h1⟩
    · rcases h2 with h2 | ⟨rfl, h2⟩
      · exact .inl (UInt8.lt_trans h1 h2)
      · exact .inl h1
    · rcases h2 with h2 | ⟨rfl, h2⟩
      · exact .inl h2
      · exact .inr ⟨rfl, less_trans a b c h1 h2⟩
theorem rdOfB (xs : List ByteArray) (i : Nat) (h : i < xs.length) : rdOf ByteArray.empty xs (i : Int) = xs[i] := by
  unfold rdOf
  rw [Int.toNat_natCast, List.getD_eq_getElem?_getD, List.getElem?_eq_getElem h]; rfl
theorem rising_l (l : List ByteArray) (hl : l.length ≤ 140737488351232) (ho : ∀ y, y ∈ l → y.size ≤ 140737488351232) : ∀ (d i : Nat), d + i = l.length →
    Tells (fun k => limbeckref01_Rising.l0 k l i) (fun b => b = true → ∀ j, i ≤ j → ∀ (h : j < l.length), 0 < j → Op.bytesLess (l[j - 1]'(by omega)).toList (l[j]).toList = true)
  | 0, i, h => Tells.step (fun _ => rfl) (Tells.ite (fun h => by omega) (fun _ => Tells.ret (fun _ j h1 h2 => by omega)))
  | d + 1, i, h => by
    have ih := rising_l l hl ho d (i + 1) (by omega)
    have hi : i < l.length := by omega
    have hw : wrap64 ((i : Int) + 1) = ((i + 1 : Nat) : Int) := by rw [wrap_in (by omega) (by omega)]; rfl
    refine Tells.step (fun _ => rfl) (Tells.yes (by omega) (Tells.yes (by omega) (Tells.bind (fine_told _ (by rw [rdOfB l i hi]; exact ho _ (List.getElem_mem hi))) (fun b _ => ?_))))
    rw [hw]
    refine Tells.ite (fun _ => Tells.ite (fun h0 => ?_) (fun h0 => ?_)) (fun _ => Tells.ret (fun h => by cases h))
    · have hw2 : wrap64 ((i : Int) - 1) = ((i - 1 : Nat) : Int) := by rw [wrap_in (by omega) (by omega)]; omega
      rw [hw2]
      refine Tells.yes (by omega) (Tells.yes (by omega) (Tells.ite (fun hb => ih.mono (fun b hk hb1 j h1 h2 h3 => ?_)) (fun _ => Tells.ret (fun h => by cases h))))
      rcases Nat.eq_or_lt_of_le h1 with rfl | h1
      · rw [rdOfB l i hi, rdOfB l (i - 1) (by omega)] at hb; exact hb
      · exact hk hb1 j h1 h2 h3
    · exact ih.mono (fun b hk hb1 j h1 h2 h3 => hk hb1 j (by omega) h2 h3)
theorem rising_told (l : List ByteArray) (hl : l.length ≤ 140737488351232) (ho : ∀ y, y ∈ l → y.size ≤ 140737488351232) : Tells (fun k => limbeckref01_Rising.f k l) (fun b => b = true → l.Nodup) := by
  unfold limbeckref01_Rising.f
  refine (rising_l l hl ho l.length 0 (by omega)).mono (fun b h hb => ?_)
  have h := h hb
  have hp : l.Pairwise (fun a b => Op.bytesLess a.toList b.toList = true) := by
    rw [List.pairwise_iff_getElem]
    intro i j hi hj hij
    generalize hd : j - i = d
    induction d generalizing j with
    | zero => omega
    | succ d ih =>
      have h1 := h j (Nat.zero_le _) hj (by omega)
      by_cases e : i = j - 1
      · subst e; exact h1
      · exact less_trans _ _ _ (ih (j - 1) (by omega) (by omega) (by omega)) h1
  refine hp.imp ?_
  intro a b hab he
  subst he
  rw [less_irrefl] at hab
  cases hab
def Shape (x : Ty) : Prop := (x.f0 = 8 → x.f4.length = x.f3.length ∧ x.f3.Nodup) ∧ (x.f0 = 7 ∨ x.f0 = 8 ∨ x.f4 = [])
theorem nil_of {α : Type} {l : List α} (h : ((l.length : Int) == 0) = true) : l = [] := by
  cases l with
  | nil => rfl
  | cons a l => simp at h; omega
theorem Shape.nil {x : Ty} (h : x.f4 = []) (h8 : ¬ x.f0 = 8) : Shape x := ⟨fun h => absurd h h8, .inr (.inr h)⟩
theorem right_j2 (x : Ty) (o : Okt x) (ow : Okw x) (b : Bool) (hb : b = true → x.f0 ≤ 5) : Tells (fun k => limbeckref04_Right.j2 k b x.f0 x.f1 x.f2 x.f3 x.f4) (fun b => b = true → Shape x) := by
  refine Tells.step (fun _ => rfl) (Tells.ite (fun h => Tells.ret (fun hk => Shape.nil (nil_of hk) (by have := hb h; omega))) (fun _ => ?_))
  refine Tells.ite (fun h6 => Tells.bind (var_told _ ow.name) (fun t _ => Tells.ite (fun _ => Tells.ret (fun hk => Shape.nil (nil_of hk) (by omega))) (fun _ => Tells.ret (fun h => by cases h)))) (fun _ => ?_)
  refine Tells.ite (fun h9 => Tells.ite (fun _ => Tells.ite (fun _ => Tells.ret (fun hk => Shape.nil (nil_of hk) (by omega))) (fun _ => Tells.ret (fun h => by cases h))) (fun _ => Tells.ret (fun h => by cases h))) (fun _ => ?_)
  refine Tells.ite (fun h7 => Tells.ret (fun _ => ⟨fun h => by omega, .inl h7⟩)) (fun _ => ?_)
  refine Tells.ite (fun h8 => Tells.bind (rising_told _ o.l3 ow.words) (fun t ht => Tells.ite (fun hk => Tells.ret (fun hl => ⟨fun _ => ⟨?_, ht hk⟩, .inr (.inl h8)⟩)) (fun _ => Tells.ret (fun h => by cases h)))) (fun _ => Tells.ret (fun h => by cases h))
  have := eq_of_beq hl
  omega
theorem right_j1 (x : Ty) (o : Okt x) (ow : Okw x) (b : Bool) : Tells (fun k => limbeckref04_Right.j1 k b x.f0 x.f1 x.f2 x.f3 x.f4) (fun b => b = true → Shape x) :=
  Tells.step (fun _ => rfl) (Tells.ite (fun h => Tells.ret (fun h => by cases h)) (fun _ => Tells.ite (fun _ => right_j2 x o ow _ (fun h => of_decide_eq_true h)) (fun _ => right_j2 x o ow _ (fun h => by cases h))))
abbrev RightF (k : Nat) (y : Ty) : Option Bool := limbeckref04_Right.f k y.f0 y.f1 y.f2 y.f3 y.f4
theorem right_l0 (x : Ty) (o : Okt x) (ow : Okw x) (hs : ∀ y, y ∈ x.f4 → Tells (fun k => RightF k y) (fun b => b = true → Rp y)) : ∀ (d i : Nat), d + i = x.f4.length →
    Tells (fun k => limbeckref04_Right.l0 k i x.f0 x.f1 x.f2 x.f3 x.f4) (fun b => b = true → Shape x ∧ ∀ j, i ≤ j → ∀ (h : j < x.f4.length), Rp x.f4[j])
  | 0, i, h => by
    refine Tells.step (fun _ => rfl) (Tells.ite (fun h => by omega) (fun _ => ?_))
    refine Tells.mono (P := fun b => b = true → Shape x) ?_ (fun b hb hk => ⟨hb hk, fun j h1 h2 => by omega⟩)
    repeat' first
      | exact right_j1 x o ow _
      | exact Tells.ret (fun h => by cases h)
      | refine Tells.ite (fun _ => ?_) (fun _ => ?_)
  | d + 1, i, h => by
    have ih := right_l0 x o ow hs d (i + 1) (by omega)
    have hi : i < x.f4.length := by omega
    have hl := o.l80
    have hw : wrap64 ((i : Int) + 1) = ((i + 1 : Nat) : Int) := by rw [wrap_in (by omega) (by omega)]; rfl
    have hy := hs _ (List.getElem_mem hi)
    rw [← rdT_at x.f4 i hi] at hy
    refine Tells.step (fun _ => rfl) (Tells.yes (by omega) (Tells.yes (by omega) (Tells.bind hy (fun b hb => ?_))))
    rw [hw]
    refine Tells.ite (fun hk => ih.mono (fun b h1 h2 => ⟨(h1 h2).1, fun j h3 h4 => ?_⟩)) (fun _ => Tells.ret (fun h => by cases h))
    rcases Nat.eq_or_lt_of_le h3 with rfl | h3
    · have := hb hk; rwa [rdT_at x.f4 i hi] at this
    · exact (h1 h2).2 j h3 h4
theorem right_told : ∀ (n : Nat) (x : Ty), SizeOf.sizeOf x < n → Okt x → Okw x → Tells (fun k => RightF k x) (fun b => b = true → Rp x)
  | 0, _, h, _, _ => absurd h (Nat.not_lt_zero _)
  | n + 1, x, h, o, ow => by
    have hs : ∀ y, y ∈ x.f4 → Tells (fun k => RightF k y) (fun b => b = true → Rp y) := fun y hy => right_told n y (by have := size_args x y hy; omega) (o.all y hy) (ow.all y hy)
    refine Tells.step (fun _ => rfl) ((right_l0 x o ow hs x.f4.length 0 (by omega)).mono (fun b hb hk => ?_))
    obtain ⟨h1, h2⟩ := hb hk
    exact .mk x h1.1 h1.2 (fun y hy => by obtain ⟨j, hj, rfl⟩ := List.mem_iff_getElem.1 hy; exact h2 j (Nat.zero_le _) hj)
abbrev HasF (k : Nat) (y : Ty) (c : Int) : Option Bool := limbeckref04_Has.f k y.f0 y.f1 y.f2 y.f3 y.f4 c
theorem has_l0 (c : Int) (x : Ty) (o : Okt x) (hs : ∀ y, y ∈ x.f4 → Tells (fun k => HasF k y c) (fun b => b = false → c = 7 → Nofun y)) : ∀ (d i : Nat), d + i = x.f4.length →
    Tells (fun k => limbeckref04_Has.l0 k c i x.f0 x.f1 x.f2 x.f3 x.f4) (fun b => b = false → c = 7 → ∀ j, i ≤ j → ∀ (h : j < x.f4.length), Nofun x.f4[j])
  | 0, i, h => Tells.step (fun _ => rfl) (Tells.ite (fun h => by omega) (fun _ => Tells.ret (fun _ _ j h1 h2 => by omega)))
  | d + 1, i, h => by
    have ih := has_l0 c x o hs d (i + 1) (by omega)
    have hi : i < x.f4.length := by omega
    have hl := o.l80
    have hw : wrap64 ((i : Int) + 1) = ((i + 1 : Nat) : Int) := by rw [wrap_in (by omega) (by omega)]; rfl
    have hy := hs _ (List.getElem_mem hi)
    rw [← rdT_at x.f4 i hi] at hy
    refine Tells.step (fun _ => rfl) (Tells.yes (by omega) (Tells.yes (by omega) (Tells.bind hy (fun b hb => ?_))))
    rw [hw]
    refine Tells.ite (fun hk => Tells.ret (fun h => by cases h)) (fun hk => ih.mono (fun b h1 h2 h7 j h3 h4 => ?_))
    rcases Nat.eq_or_lt_of_le h3 with rfl | h3
    · have := hb (by simpa using hk) h7; rwa [rdT_at x.f4 i hi] at this
    · exact h1 h2 h7 j h3 h4
theorem has_told (c : Int) : ∀ (n : Nat) (x : Ty), SizeOf.sizeOf x < n → Okt x → Tells (fun k => HasF k x c) (fun b => b = false → c = 7 → Nofun x)
  | 0, _, h, _ => absurd h (Nat.not_lt_zero _)
  | n + 1, x, h, o => by
    have hs : ∀ y, y ∈ x.f4 → Tells (fun k => HasF k y c) (fun b => b = false → c = 7 → Nofun y) := fun y hy => has_told c n y (by have := size_args x y hy; omega) (o.all y hy)
    refine Tells.step (fun _ => rfl) (Tells.ite (fun _ => Tells.ret (fun h => by cases h)) (fun hc => (has_l0 c x o hs x.f4.length 0 (by omega)).mono (fun b hb h1 h7 => ?_)))
    exact .mk x (by omega) (fun y hy => by obtain ⟨j, hj, rfl⟩ := List.mem_iff_getElem.1 hy; exact hb h1 h7 j (Nat.zero_le _) hj)
theorem closed_told {x : Ty} (o : Okt x) : Tells (fun k => limbeckref04_Closed.f k x.f0 x.f1 x.f2 x.f3 x.f4) (fun _ => True) := by
  unfold limbeckref04_Closed.f
  exact Tells.bind (has_told 6 _ x (Nat.lt_succ_self _) o) (fun _ _ => Tells.ret trivial)
abbrev AheadF (k : Nat) (y : Ty) (c : Int) : Option Bool := limbeckref28_ahead.f k y.f0 y.f1 y.f2 y.f3 y.f4 c
theorem ahead_l0 (c : Int) (x : Ty) (o : Okt x) (hs : ∀ y, y ∈ x.f4 → Tells (fun k => AheadF k y c) (fun _ => True)) : ∀ (d i : Nat), d + i = x.f4.length →
    Tells (fun k => limbeckref28_ahead.l0 k c i x.f0 x.f1 x.f2 x.f3 x.f4) (fun _ => True)
  | 0, i, h => Tells.step (fun _ => rfl) (Tells.ite (fun h => by omega) (fun _ => Tells.ret trivial))
  | d + 1, i, h => by
    have ih := ahead_l0 c x o hs d (i + 1) (by omega)
    have hi : i < x.f4.length := by omega
    have hl := o.l80
    have hw : wrap64 ((i : Int) + 1) = ((i + 1 : Nat) : Int) := by rw [wrap_in (by omega) (by omega)]; rfl
    have hy := hs _ (List.getElem_mem hi)
    rw [← rdT_at x.f4 i hi] at hy
    refine Tells.step (fun _ => rfl) (Tells.yes (by omega) (Tells.yes (by omega) (Tells.bind hy (fun b hb => ?_))))
    rw [hw]
    exact Tells.ite (fun hk => ih) (fun hk => Tells.ret trivial)
theorem ahead_told (c : Int) : ∀ (n : Nat) (x : Ty), SizeOf.sizeOf x < n → Okt x → Tells (fun k => AheadF k x c) (fun _ => True)
  | 0, _, h, _ => absurd h (Nat.not_lt_zero _)
  | n + 1, x, h, o => by
    have hs : ∀ y, y ∈ x.f4 → Tells (fun k => AheadF k y c) (fun _ => True) := fun y hy => ahead_told c n y (by have := size_args x y hy; omega) (o.all y hy)
    have hj : ∀ b, Tells (fun k => limbeckref28_ahead.j0 k c b x.f0 x.f1 x.f2 x.f3 x.f4) (fun _ => True) := fun b => Tells.step (fun _ => rfl) (Tells.ite (fun _ => Tells.ret trivial) (fun _ => ahead_l0 c x o hs x.f4.length 0 (by omega)))
    exact Tells.step (fun _ => rfl) (Tells.ite (fun _ => hj _) (fun _ => hj _))
end Go.Proofs.Ytnfnhjhnfdkinaa.PConvBack
namespace Go.Proofs.Ytnfnhjhnfdkinaa.PConvBack
open Go.RowKit Go.Proofs.YtnfnhjhnfdkinaaW.Mine Go.Proofs.YtnfnhjhnfdkinaaW.PrintWords Go.Proofs.YtnfnhjhnfdkinaaW.PrintLast Go.Proofs.YtnfnhjhnfdkinaaW.PrintMore
set_option linter.unusedVariables false
set_option linter.unusedSimpArgs false
/-- Seals whose types are read. -/
structure Oks (l : List Se) : Prop where
  len : l.length * 184 ≤ 140737488351232
  rep : ∀ s, s ∈ l → Okt s.f0
  repw : ∀ s, s ∈ l → Okw s.f0
  up : ∀ s, s ∈ l → Okt s.f1
  upw : ∀ s, s ∈ l → Okw s.f1
theorem rdS_at (l : List Se) (i : Nat) (h : i < l.length) : rd_T86 l (i : Int) = l[i] := getD_at _ l i h
theorem okt_right {x : Ty} (o : Okt x) (ow : Okw x) : Tells (fun k => limbeckref04_Right.f k x.f0 x.f1 x.f2 x.f3 x.f4) (fun b => b = true → Rp x) := right_told _ x (Nat.lt_succ_self _) o ow
theorem okt_ahead {x : Ty} (o : Okt x) (c : Int) : Tells (fun k => limbeckref28_ahead.f k x.f0 x.f1 x.f2 x.f3 x.f4 c) (fun _ => True) := ahead_told c _ x (Nat.lt_succ_self _) o
theorem reps_l0 (l : List Se) (hl : l.length * 184 ≤ 140737488351232) (a : Nat) : ∀ (d i : Nat), a ≤ i → d + i = l.length → Ev (fun k => limbecklaw31_reps.l0 k l ((l.drop a).take (i - a) |>.map (fun s => s.f0)) i) (repsL l a)
  | 0, i, ha, h => by
    refine Ev.step (fun _ => rfl) (Ev.neg (by omega) (Ev.rets ?_))
    rw [List.take_of_length_le (by rw [List.length_drop]; omega)]
    rfl
  | d + 1, i, ha, h => by
    have ih := reps_l0 l hl a d (i + 1) (by omega) (by omega)
    have hi : i < l.length := by omega
    have hw : wrap64 ((i : Int) + 1) = ((i + 1 : Nat) : Int) := by rw [wrap_in (by omega) (by omega)]; rfl
    refine Ev.step (fun _ => rfl) (Ev.pos (by omega) (Ev.pos (by omega) (Ev.pos ?_ ?_)))
    · rw [List.length_map, List.length_take, List.length_drop]; omega
    · rw [hw, rdS_at l i hi]
      have e : (((l.drop a).take (i + 1 - a)).map (fun s => s.f0) : List Ty) = ((l.drop a).take (i - a)).map (fun s => s.f0) ++ [(⟨l[i].f0.f0, l[i].f0.f1, l[i].f0.f2, l[i].f0.f3, l[i].f0.f4⟩ : Ty)] := by
        have hd : i - a < (l.drop a).length := by rw [List.length_drop]; omega
        rw [show i + 1 - a = i - a + 1 by omega, List.take_add_one, List.getElem?_eq_getElem hd, List.map_append]
        congr 1
        simp only [List.getElem_drop, Option.toList_some, List.map_cons, List.map_nil]
        have ee : a + (i - a) = i := by omega
        simp only [ee]
        generalize l[i].f0 = x
        cases x
        rfl
      rw [e] at ih
      exact ih
theorem reps_told (l : List Se) (hl : l.length * 184 ≤ 140737488351232) (a : Nat) (ha : a ≤ l.length) : ∃ k, limbecklaw31_reps.f k l (a : Int) = some (repsL l a) := by
  have h := reps_l0 l hl a (l.length - a) a (Nat.le_refl _) (by omega)
  rw [Nat.sub_self, List.take_zero, List.map_nil] at h
  exact h.rounds
end Go.Proofs.Ytnfnhjhnfdkinaa.PConvBack
namespace Go.Proofs.Ytnfnhjhnfdkinaa.PConvBack
open Go.RowKit Go.Proofs.YtnfnhjhnfdkinaaW.Mine Go.Proofs.YtnfnhjhnfdkinaaW.PrintWords Go.Proofs.YtnfnhjhnfdkinaaW.PrintLast Go.Proofs.YtnfnhjhnfdkinaaW.PrintMore
attribute [local go_sem] max2_int min2_int max_two min_two max_three min_three max_four min_four
set_option linter.unusedVariables false
set_option linter.unusedSimpArgs false
theorem dozen {w : World} {g : Nat} {v0 v1 v2 v3 v4 v5 v6 v7 v8 v9 v10 v11 : Value} {t : TypeId} (h : w.heap[g]? = some (.cells #[v0, v1, v2, v3, v4, v5, v6, v7, v8, v9, v10, v11] t (0, 0))) : (w.cell? ⟨g, 0, none⟩ = some v0 ∧ w.cell? ⟨g, 1, none⟩ = some v1 ∧ w.cell? ⟨g, 2, none⟩ = some v2 ∧ w.cell? ⟨g, 3, none⟩ = some v3 ∧ w.cell? ⟨g, 4, none⟩ = some v4 ∧ w.cell? ⟨g, 5, none⟩ = some v5 ∧ w.cell? ⟨g, 6, none⟩ = some v6 ∧ w.cell? ⟨g, 7, none⟩ = some v7 ∧ w.cell? ⟨g, 8, none⟩ = some v8 ∧ w.cell? ⟨g, 9, none⟩ = some v9 ∧ w.cell? ⟨g, 10, none⟩ = some v10 ∧ w.cell? ⟨g, 11, none⟩ = some v11) ∧ (w.frozen? ⟨g, 0, none⟩ = false ∧ w.frozen? ⟨g, 1, none⟩ = false ∧ w.frozen? ⟨g, 2, none⟩ = false ∧ w.frozen? ⟨g, 3, none⟩ = false ∧ w.frozen? ⟨g, 4, none⟩ = false ∧ w.frozen? ⟨g, 5, none⟩ = false ∧ w.frozen? ⟨g, 6, none⟩ = false ∧ w.frozen? ⟨g, 7, none⟩ = false ∧ w.frozen? ⟨g, 8, none⟩ = false ∧ w.frozen? ⟨g, 9, none⟩ = false ∧ w.frozen? ⟨g, 10, none⟩ = false ∧ w.frozen? ⟨g, 11, none⟩ = false) ∧ g < w.heap.size :=
  ⟨⟨(blk_cell h 0).trans rfl, (blk_cell h 1).trans rfl, (blk_cell h 2).trans rfl, (blk_cell h 3).trans rfl, (blk_cell h 4).trans rfl, (blk_cell h 5).trans rfl, (blk_cell h 6).trans rfl, (blk_cell h 7).trans rfl, (blk_cell h 8).trans rfl, (blk_cell h 9).trans rfl, (blk_cell h 10).trans rfl, (blk_cell h 11).trans rfl⟩, ⟨blk_frozen h 0, blk_frozen h 1, blk_frozen h 2, blk_frozen h 3, blk_frozen h 4, blk_frozen h 5, blk_frozen h 6, blk_frozen h 7, blk_frozen h 8, blk_frozen h 9, blk_frozen h 10, blk_frozen h 11⟩, blk_lt h⟩
/-- Seals, read. -/
def RS (w : World) (A : Option Addr) (c : Nat) (l : List Se) : Prop := kSe.C w A l.length l ∧ l.length ≤ c
theorem RS.below {w w1 : World} {A : Option Addr} {c : Nat} {l : List Se} (h : RS w A c l) (hb : Below w.heap.size w w1) : RS w1 A c l := ⟨Kd.C_below h.1 hb, h.2⟩
theorem selem2 {w : World} {A : Option Addr} {l : List Se} (h : kSe.C w A l.length l) (i : Nat) (hi : i < l.length) : ∃ ad A3 c3 A4 c4 A8 c8 A9 c9, A = some ad ∧ RT w l[i].f0 A3 c3 A4 c4 ∧ RT w l[i].f1 A8 c8 A9 c9
    ∧ w.cell? (ad.add (i * 12)) = some (.int .i64 l[i].f0.f0)
    ∧ w.cell? ⟨(ad.add (i * 12)).block, (ad.add (i * 12)).off + 1, none⟩ = some (.int .i64 l[i].f0.f1)
    ∧ w.cell? ⟨(ad.add (i * 12)).block, (ad.add (i * 12)).off + 2, none⟩ = some (.string l[i].f0.f2)
    ∧ w.cell? ⟨(ad.add (i * 12)).block, (ad.add (i * 12)).off + 3, none⟩ = some (.slice A3 l[i].f0.f3.length c3)
    ∧ w.cell? ⟨(ad.add (i * 12)).block, (ad.add (i * 12)).off + 4, none⟩ = some (.slice A4 l[i].f0.f4.length c4)
    ∧ w.cell? ⟨(ad.add (i * 12)).block, (ad.add (i * 12)).off + 5, none⟩ = some (.int .i64 l[i].f1.f0)
    ∧ w.cell? ⟨(ad.add (i * 12)).block, (ad.add (i * 12)).off + 6, none⟩ = some (.int .i64 l[i].f1.f1)
    ∧ w.cell? ⟨(ad.add (i * 12)).block, (ad.add (i * 12)).off + 7, none⟩ = some (.string l[i].f1.f2)
    ∧ w.cell? ⟨(ad.add (i * 12)).block, (ad.add (i * 12)).off + 8, none⟩ = some (.slice A8 l[i].f1.f3.length c8)
    ∧ w.cell? ⟨(ad.add (i * 12)).block, (ad.add (i * 12)).off + 9, none⟩ = some (.slice A9 l[i].f1.f4.length c9)
    ∧ w.cell? ⟨(ad.add (i * 12)).block, (ad.add (i * 12)).off + 10, none⟩ = some (.string l[i].f2.f0)
    ∧ w.cell? ⟨(ad.add (i * 12)).block, (ad.add (i * 12)).off + 11, none⟩ = some (.int .i64 l[i].f2.f1)
    := by
  obtain ⟨ad, A3, c3, A4, c4, A8, c8, A9, c9, e, h0, h1, h2, h3, h4, h5, h6, h7, h8, h9, h10, h11, g3, r3, g4, r4, g8, r8, g9, r9⟩ := at_T86 h (i : Int) (by omega) (by omega)
  have q : rd_T86 l (i : Int) = l[i] := getD_at _ l i hi
  rw [q] at h0 h1 h2 h3 h4 h5 h6 h7 h8 h9 h10 h11 g3 r3 g4 r4 g8 r8 g9 r9
  rw [Int.toNat_natCast] at h0 h1 h2 h3 h4 h5 h6 h7 h8 h9 h10 h11
  exact ⟨ad, A3, c3, A4, c4, A8, c8, A9, c9, e, ⟨g3, r3, g4, r4⟩, ⟨g8, r8, g9, r9⟩, h0, h1, h2, h3, h4, h5, h6, h7, h8, h9, h10, h11⟩
theorem lright_c {x : Ty} (o : Okt x) (ow : Okw x) : ∃ b : Bool, (b = true → Rp x) ∧ ∀ {A3 A4 : Option Addr} {c3 c4 : Nat} {w : World}, RT w x A3 c3 A4 c4 →
    Calls Try.prog 40 #[tv x A3 c3 A4 c4] w fun e w' => e = .returned (.bool b) ∧ Below w.heap.size w w' := by
  obtain ⟨r, hr, hp⟩ := okt_right o ow
  obtain ⟨k, hk⟩ := hr.rounds
  exact ⟨r, hp, fun h => (limbeckref04_Right.calls k x.f0 x.f1 x.f2 _ _ x.f3 _ _ x.f4 r _ h.2.1 h.1 h.2.2.2 h.2.2.1 hk).mono fun e w' k => k⟩
theorem lclosed_c {x : Ty} (o : Okt x) : ∃ b : Bool, ∀ {A3 A4 : Option Addr} {c3 c4 : Nat} {w : World}, RT w x A3 c3 A4 c4 →
    Calls Try.prog 73 #[tv x A3 c3 A4 c4] w fun e w' => e = .returned (.bool b) ∧ Below w.heap.size w w' := by
  obtain ⟨r, hr, _⟩ := closed_told o
  obtain ⟨k, hk⟩ := hr.rounds
  exact ⟨r, fun h => (limbeckref04_Closed.calls k x.f0 x.f1 x.f2 _ _ x.f3 _ _ x.f4 r _ h.2.1 h.1 h.2.2.2 h.2.2.1 hk).mono fun e w' k => k⟩
theorem lahead_c (n : Int) {x : Ty} (o : Okt x) : ∃ b : Bool, ∀ {A3 A4 : Option Addr} {c3 c4 : Nat} {w : World}, RT w x A3 c3 A4 c4 →
    Calls Try.prog 74 #[tv x A3 c3 A4 c4, .int .i64 n] w fun e w' => e = .returned (.bool b) ∧ Below w.heap.size w w' := by
  obtain ⟨r, hr, _⟩ := okt_ahead o n
  obtain ⟨k, hk⟩ := hr.rounds
  exact ⟨r, fun h => (limbeckref28_ahead.calls k x.f0 x.f1 x.f2 _ _ x.f3 _ _ x.f4 n r _ h.2.1 h.1 h.2.2.2 h.2.2.1 hk).mono fun e w' k => k⟩
/-- A truth; if it is so, the seals are as few as there may be. -/
def SOut (l : List Se) (w : World) (e : Ending) (w' : World) : Prop := ∃ b : Bool, e = .returned (.bool b) ∧ (b = true → l.length ≤ 1073741824) ∧ Below w.heap.size w w'
set_option maxHeartbeats 8000000 in
set_option maxRecDepth 100000 in
theorem rseals_c {l : List Se} (ol : Oks l) {A : Option Addr} {c : Nat} {w : World} (hL : RS w A c l) : Calls Try.prog 39 #[.slice A l.length c] w (SOut l w) := by
  have hl := ol.len
  have OL := Aside0.mk ol
  have b0 := Below.refl w.heap.size w
  clear ol
  go_enter Try.func39, Try.ntmps39
  go_wp2_with fail
  go_loopg [3] l.length (fun kq v3 w' => ∃ i : Nat, v3 = .int .i64 i ∧ kq + i = l.length ∧ Below w.heap.size w w')
  case atStart => exact ⟨0, rfl, rfl, Below.refl _ _⟩
  case round =>
    clear b0
    obtain ⟨i, rfl, hk, b1⟩ := hrel
    replace hL := hL.below b1
    by_cases hi : i < l.length
    · obtain ⟨k1, rfl⟩ : ∃ k1, gk = k1 + 1 := ⟨gk - 1, by omega⟩
      have ci : decide ((i : Int) < (l.length : Int)) = true := decide_eq_true (by omega)
      have ci2 : decide (i < l.length) = true := decide_eq_true hi
      have i0 : (0 : Int) ≤ (i : Int) := by omega
      have i1 : (i : Int) < (l.length : Int) := by omega
      have hm := List.getElem_mem hi
      obtain ⟨ad, X3, e3, X4, e4, X8, e8, X9, e9, hA, hr, hu, x0, x1, x2, x3, x4, x5, x6, x7, x8, x9, x10, x11⟩ := selem2 hL.1 i hi
      subst hA
      obtain ⟨r1, _, c1⟩ := lright_c (OL.out.rep _ hm) (OL.out.repw _ hm)
      obtain ⟨r2, c2⟩ := lclosed_c (OL.out.rep _ hm)
      obtain ⟨r3, c3⟩ := lahead_c (i : Int) (OL.out.rep _ hm)
      obtain ⟨r4, _, c4⟩ := lright_c (OL.out.up _ hm) (OL.out.upw _ hm)
      obtain ⟨r5, c5⟩ := lclosed_c (OL.out.up _ hm)
      obtain ⟨r6, c6⟩ := lahead_c 0 (OL.out.up _ hm)
      have C1 := Aside0.mk @c1
      have C2 := Aside0.mk @c2
      have C3 := Aside0.mk @c3
      have C4 := Aside0.mk @c4
      have C5 := Aside0.mk @c5
      have C6 := Aside0.mk @c6
      have HK := Aside0.mk hk
      clear c1 c2 c3 c4 c5 c6 hk hm
      generalize l[i] = z at *
      have kS := blk_new wr (.cells #[.int .i64 z.f0.f0, .int .i64 z.f0.f1, .string z.f0.f2, .slice X3 z.f0.f3.length e3, .slice X4 z.f0.f4.length e4, .int .i64 z.f1.f0, .int .i64 z.f1.f1, .string z.f1.f2, .slice X8 z.f1.f3.length e8, .slice X9 z.f1.f4.length e9, .string z.f2.f0, .int .i64 z.f2.f1] 86)
      have hb := below_alloc1 wr (.cells #[.int .i64 z.f0.f0, .int .i64 z.f0.f1, .string z.f0.f2, .slice X3 z.f0.f3.length e3, .slice X4 z.f0.f4.length e4, .int .i64 z.f1.f0, .int .i64 z.f1.f1, .string z.f1.f2, .slice X8 z.f1.f3.length e8, .slice X9 z.f1.f4.length e9, .string z.f2.f0, .int .i64 z.f2.f1] 86)
      have b_1 := chain b1 hb
      replace hL := hL.below hb
      replace hr := hr.below hb
      replace hu := hu.below hb
      clear b1
      clear hb
      obtain ⟨⟨Sc0, Sc1, Sc2, Sc3, Sc4, Sc5, Sc6, Sc7, Sc8, Sc9, Sc10, Sc11⟩, ⟨Sf0, Sf1, Sf2, Sf3, Sf4, Sf5, Sf6, Sf7, Sf8, Sf9, Sf10, Sf11⟩, Sl⟩ := dozen kS
      go_wp2_with fail
      refine (C1.out hr).mono ?_
      rintro e_ w_ ⟨rfl, hb⟩
      clear Sc0 Sc1 Sc2 Sc3 Sc4 Sc5 Sc6 Sc7 Sc8 Sc9 Sc10 Sc11 Sf0 Sf1 Sf2 Sf3 Sf4 Sf5 Sf6 Sf7 Sf8 Sf9 Sf10 Sf11 Sl
      have b_2 := chain b_1 hb
      replace kS := blk_below kS hb
      replace hL := hL.below hb
      replace hr := hr.below hb
      replace hu := hu.below hb
      clear b_1
      clear hb
      clear x0 x1 x2 x3 x4 x5 x6 x7 x8 x9 x10 x11
      cases r1 with
      | false =>
        obtain ⟨⟨Sc0, Sc1, Sc2, Sc3, Sc4, Sc5, Sc6, Sc7, Sc8, Sc9, Sc10, Sc11⟩, ⟨Sf0, Sf1, Sf2, Sf3, Sf4, Sf5, Sf6, Sf7, Sf8, Sf9, Sf10, Sf11⟩, Sl⟩ := dozen kS
        go_wp2
        go_ret
        exact ⟨false, rfl, (fun h => absurd h (by decide)), b_2⟩
      | true =>
        obtain ⟨⟨Sc0, Sc1, Sc2, Sc3, Sc4, Sc5, Sc6, Sc7, Sc8, Sc9, Sc10, Sc11⟩, ⟨Sf0, Sf1, Sf2, Sf3, Sf4, Sf5, Sf6, Sf7, Sf8, Sf9, Sf10, Sf11⟩, Sl⟩ := dozen kS
        go_wp2_with fail
        refine (C2.out hr).mono ?_
        rintro e_ w_ ⟨rfl, hb⟩
        clear Sc0 Sc1 Sc2 Sc3 Sc4 Sc5 Sc6 Sc7 Sc8 Sc9 Sc10 Sc11 Sf0 Sf1 Sf2 Sf3 Sf4 Sf5 Sf6 Sf7 Sf8 Sf9 Sf10 Sf11 Sl
        have b_3 := chain b_2 hb
        replace kS := blk_below kS hb
        replace hL := hL.below hb
        replace hr := hr.below hb
        replace hu := hu.below hb
        clear b_2
        clear hb
        cases r2 with
        | false =>
          obtain ⟨⟨Sc0, Sc1, Sc2, Sc3, Sc4, Sc5, Sc6, Sc7, Sc8, Sc9, Sc10, Sc11⟩, ⟨Sf0, Sf1, Sf2, Sf3, Sf4, Sf5, Sf6, Sf7, Sf8, Sf9, Sf10, Sf11⟩, Sl⟩ := dozen kS
          go_wp2
          go_ret
          exact ⟨false, rfl, (fun h => absurd h (by decide)), b_3⟩
        | true =>
          obtain ⟨⟨Sc0, Sc1, Sc2, Sc3, Sc4, Sc5, Sc6, Sc7, Sc8, Sc9, Sc10, Sc11⟩, ⟨Sf0, Sf1, Sf2, Sf3, Sf4, Sf5, Sf6, Sf7, Sf8, Sf9, Sf10, Sf11⟩, Sl⟩ := dozen kS
          go_wp2_with fail
          refine (C3.out hr).mono ?_
          rintro e_ w_ ⟨rfl, hb⟩
          clear Sc0 Sc1 Sc2 Sc3 Sc4 Sc5 Sc6 Sc7 Sc8 Sc9 Sc10 Sc11 Sf0 Sf1 Sf2 Sf3 Sf4 Sf5 Sf6 Sf7 Sf8 Sf9 Sf10 Sf11 Sl
          have b_4 := chain b_3 hb
          replace kS := blk_below kS hb
          replace hL := hL.below hb
          replace hr := hr.below hb
          replace hu := hu.below hb
          clear b_3
          clear hb
          cases r3 with
          | false =>
            obtain ⟨⟨Sc0, Sc1, Sc2, Sc3, Sc4, Sc5, Sc6, Sc7, Sc8, Sc9, Sc10, Sc11⟩, ⟨Sf0, Sf1, Sf2, Sf3, Sf4, Sf5, Sf6, Sf7, Sf8, Sf9, Sf10, Sf11⟩, Sl⟩ := dozen kS
            go_wp2
            go_ret
            exact ⟨false, rfl, (fun h => absurd h (by decide)), b_4⟩
          | true =>
            obtain ⟨⟨Sc0, Sc1, Sc2, Sc3, Sc4, Sc5, Sc6, Sc7, Sc8, Sc9, Sc10, Sc11⟩, ⟨Sf0, Sf1, Sf2, Sf3, Sf4, Sf5, Sf6, Sf7, Sf8, Sf9, Sf10, Sf11⟩, Sl⟩ := dozen kS
            go_wp2_with fail
            refine (C4.out hu).mono ?_
            rintro e_ w_ ⟨rfl, hb⟩
            clear Sc0 Sc1 Sc2 Sc3 Sc4 Sc5 Sc6 Sc7 Sc8 Sc9 Sc10 Sc11 Sf0 Sf1 Sf2 Sf3 Sf4 Sf5 Sf6 Sf7 Sf8 Sf9 Sf10 Sf11 Sl
            have b_5 := chain b_4 hb
            replace kS := blk_below kS hb
            replace hL := hL.below hb
            replace hr := hr.below hb
            replace hu := hu.below hb
            clear b_4
            clear hb
            cases r4 with
            | false =>
              obtain ⟨⟨Sc0, Sc1, Sc2, Sc3, Sc4, Sc5, Sc6, Sc7, Sc8, Sc9, Sc10, Sc11⟩, ⟨Sf0, Sf1, Sf2, Sf3, Sf4, Sf5, Sf6, Sf7, Sf8, Sf9, Sf10, Sf11⟩, Sl⟩ := dozen kS
              go_wp2
              go_ret
              exact ⟨false, rfl, (fun h => absurd h (by decide)), b_5⟩
            | true =>
              obtain ⟨⟨Sc0, Sc1, Sc2, Sc3, Sc4, Sc5, Sc6, Sc7, Sc8, Sc9, Sc10, Sc11⟩, ⟨Sf0, Sf1, Sf2, Sf3, Sf4, Sf5, Sf6, Sf7, Sf8, Sf9, Sf10, Sf11⟩, Sl⟩ := dozen kS
              go_wp2_with fail
              refine (C5.out hu).mono ?_
              rintro e_ w_ ⟨rfl, hb⟩
              clear Sc0 Sc1 Sc2 Sc3 Sc4 Sc5 Sc6 Sc7 Sc8 Sc9 Sc10 Sc11 Sf0 Sf1 Sf2 Sf3 Sf4 Sf5 Sf6 Sf7 Sf8 Sf9 Sf10 Sf11 Sl
              have b_6 := chain b_5 hb
              replace kS := blk_below kS hb
              replace hL := hL.below hb
              replace hr := hr.below hb
              replace hu := hu.below hb
              clear b_5
              clear hb
              cases r5 with
              | false =>
                obtain ⟨⟨Sc0, Sc1, Sc2, Sc3, Sc4, Sc5, Sc6, Sc7, Sc8, Sc9, Sc10, Sc11⟩, ⟨Sf0, Sf1, Sf2, Sf3, Sf4, Sf5, Sf6, Sf7, Sf8, Sf9, Sf10, Sf11⟩, Sl⟩ := dozen kS
                go_wp2
                go_ret
                exact ⟨false, rfl, (fun h => absurd h (by decide)), b_6⟩
              | true =>
                obtain ⟨⟨Sc0, Sc1, Sc2, Sc3, Sc4, Sc5, Sc6, Sc7, Sc8, Sc9, Sc10, Sc11⟩, ⟨Sf0, Sf1, Sf2, Sf3, Sf4, Sf5, Sf6, Sf7, Sf8, Sf9, Sf10, Sf11⟩, Sl⟩ := dozen kS
                go_wp2_with fail
                refine (C6.out hu).mono ?_
                rintro e_ w_ ⟨rfl, hb⟩
                clear Sc0 Sc1 Sc2 Sc3 Sc4 Sc5 Sc6 Sc7 Sc8 Sc9 Sc10 Sc11 Sf0 Sf1 Sf2 Sf3 Sf4 Sf5 Sf6 Sf7 Sf8 Sf9 Sf10 Sf11 Sl
                have b_7 := chain b_6 hb
                replace kS := blk_below kS hb
                replace hL := hL.below hb
                replace hr := hr.below hb
                replace hu := hu.below hb
                clear b_6
                clear hb
                cases r6 with
                | false =>
                  obtain ⟨⟨Sc0, Sc1, Sc2, Sc3, Sc4, Sc5, Sc6, Sc7, Sc8, Sc9, Sc10, Sc11⟩, ⟨Sf0, Sf1, Sf2, Sf3, Sf4, Sf5, Sf6, Sf7, Sf8, Sf9, Sf10, Sf11⟩, Sl⟩ := dozen kS
                  go_wp2
                  go_ret
                  exact ⟨false, rfl, (fun h => absurd h (by decide)), b_7⟩
                | true =>
                  obtain ⟨⟨Sc0, Sc1, Sc2, Sc3, Sc4, Sc5, Sc6, Sc7, Sc8, Sc9, Sc10, Sc11⟩, ⟨Sf0, Sf1, Sf2, Sf3, Sf4, Sf5, Sf6, Sf7, Sf8, Sf9, Sf10, Sf11⟩, Sl⟩ := dozen kS
                  have hw2 : wrap64 ((i : Int) + 1) = (i : Int) + 1 := wrap_ok (by omega) (by omega)
                  go_wp2
                  go_roundg k1
                  case measure => omega
                  case rel => exact ⟨i + 1, (by first | rfl | (simp; done) | (push_cast; rfl)), by have := HK.out; omega, b_7⟩
    · have cn : decide ((i : Int) < (l.length : Int)) = false := decide_eq_false (by omega)
      have cn2 : decide (i < l.length) = false := decide_eq_false hi
      clear hi
      go_wp2_with fail
      go_ret
      exact ⟨_, rfl, fun h => by have := of_decide_eq_true h; omega, b1⟩
end Go.Proofs.Ytnfnhjhnfdkinaa.PConvBack

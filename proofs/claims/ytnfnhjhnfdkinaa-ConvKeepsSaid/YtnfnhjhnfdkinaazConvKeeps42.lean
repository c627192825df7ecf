/-
  ConvKeeps: texts of this claim, put together by a program of this session. No conditions beyond what each lemma says.
-/
import Derived.Test.YtnfnhjhnfdkinaazConvKeeps41
namespace Go.Proofs.Ytnfnhjhnfdkinaa.PConvBack
open Go.RowKit Go.Proofs.YtnfnhjhnfdkinaaW.Mine Go.Proofs.YtnfnhjhnfdkinaaW.PrintWords Go.Proofs.YtnfnhjhnfdkinaaW.PrintLast Go.Proofs.YtnfnhjhnfdkinaaW.PrintMore
set_option linter.unusedVariables false
set_option linter.unusedSimpArgs false
abbrev NodesF (k : Nat) (y : Ty) : Option Int := limbeckref04_Nodes.f k y.f0 y.f1 y.f2 y.f3 y.f4
theorem nodes_l0 (a0 a1 : Int) (a2 : ByteArray) (l3 : List ByteArray) (l4 : List Ty) (hl : l4.length * 80 ≤ 140737488351232) (hs : ∀ y, y ∈ l4 → ∃ r, Ev (fun k => NodesF k y) r) (d i : Nat) (hd : d + i = l4.length) (x3 : Int) :
    ∃ r, Ev (fun k => limbeckref04_Nodes.l0 k x3 i a0 a1 a2 l3 l4) r := by
  induction d generalizing i x3 with
  | zero => exact ⟨_, Ev.step (fun _ => rfl) (Ev.neg (by omega) (Ev.rets rfl))⟩
  | succ d ih =>
    obtain ⟨t, ht⟩ := hs _ (rdT_mem l4 i (by omega))
    obtain ⟨r, hr⟩ := ih (i + 1) (by omega) (wrap64 (x3 + t))
    refine ⟨r, Ev.step (fun _ => rfl) (Ev.pos (by omega) (Ev.pos (by omega) (Ev.bind ht ?_)))⟩
    rw [wrap_ok (show -9223372036854775808 ≤ (i : Int) + 1 by omega) (by omega)]
    exact hr
theorem nodes_told : ∀ (n : Nat) (x : Ty), SizeOf.sizeOf x < n → Okt x → ∃ r, Ev (fun k => NodesF k x) r
  | 0, _, h, _ => absurd h (Nat.not_lt_zero _)
  | n + 1, x, h, ho => by
    obtain ⟨r, hr⟩ := nodes_l0 x.f0 x.f1 x.f2 x.f3 x.f4 ho.l80 (fun y hy => nodes_told n y (by have := size_args x y hy; omega) (ho.all y hy)) x.f4.length 0 (by omega) 1
    exact ⟨r, Ev.step (fun _ => rfl) hr⟩
mutual
theorem plain_okt (f : Ty → Option Ty) (hf : ∀ x u, f x = some u → Okt u) : ∀ (t : Ty), Okt t → Okt (plain f t)
  | ⟨a0, a1, a2, a3, a4⟩, h => by
    rw [plain_eq]
    cases hq : f ⟨a0, a1, a2, a3, a4⟩ with
    | some u => exact hf _ u hq
    | none => exact .mk _ h.l3 (by have := h.l80; rw [plainAll_map]; simpa using this) (plainAll_okt f hf a4 h.all)
theorem plainAll_okt (f : Ty → Option Ty) (hf : ∀ x u, f x = some u → Okt u) : ∀ (l : List Ty), (∀ y, y ∈ l → Okt y) → ∀ y, y ∈ plainAll f l → Okt y
  | [], _, y, hy => by rw [plainAll_nil] at hy; cases hy
  | a :: l, h, y, hy => by
    rw [plainAll_cons] at hy
    rcases List.mem_cons.1 hy with rfl | hy
    · exact plain_okt f hf a (h a (List.mem_cons_self ..))
    · exact plainAll_okt f hf l (fun z hz => h z (List.mem_cons_of_mem _ hz)) y hy
end
/-- What fitting tells. -/
theorem fitting_told {x : Ty} (o : Okt x) : ∃ b, Ev (fun k => limbeckref07_fitting.f k x.f0 x.f1 x.f2 x.f3 x.f4) (if b = true then (x.f0, x.f1, x.f2, x.f3, x.f4, true) else (0, 0, (⟨#[]⟩ : ByteArray), ([] : List ByteArray), ([] : List Ty), false)) := by
  obtain ⟨r, hr⟩ := nodes_told _ x (Nat.lt_succ_self _) o
  refine ⟨decide (r ≤ 300), ?_⟩
  have h1 : Ev (fun k => limbeckref04_Fits.f k x.f0 x.f1 x.f2 x.f3 x.f4) (decide (r ≤ 300)) := Ev.bind hr (Ev.rets rfl)
  refine Ev.bind h1 ?_
  by_cases h : r ≤ 300
  · rw [decide_eq_true h]; exact Ev.pos rfl (Ev.rets rfl)
  · rw [decide_eq_false h]; exact Ev.neg (by decide) (Ev.rets rfl)
theorem open_told {a : Int} (ha : 0 ≤ a) (ha1 : a ≤ 1073741824) {l : List Ty} (hl : l.length ≤ 140737488351232) (ol : ∀ y, y ∈ l → Okt y) {t : Ty} (o : Okt t) (sn : Sn t) :
    ∃ b k, limbeckref07_Open.f k t.f0 t.f1 t.f2 t.f3 t.f4 a l = some (if b = true then ((plain (turnOpen true a l) t).f0, (plain (turnOpen true a l) t).f1, (plain (turnOpen true a l) t).f2, (plain (turnOpen true a l) t).f3, (plain (turnOpen true a l) t).f4, true) else (0, 0, (⟨#[]⟩ : ByteArray), ([] : List ByteArray), ([] : List Ty), false)) := by
  have h1 := opened_f a ha ha1 l hl _ t (Nat.lt_succ_self _) o sn
  unfold Openeds at h1
  have oq := plain_okt (turnOpen true a l) (fun x u h => turnOpen_okt ol x u h) t o
  generalize plain (turnOpen true a l) t = q at h1 oq ⊢
  obtain ⟨b, hb⟩ := fitting_told oq
  refine ⟨b, ?_⟩
  have jf : Ev (fun k => limbeckref07_Open.j0 k a l false t.f0 t.f1 t.f2 t.f3 t.f4) (if b = true then (q.f0, q.f1, q.f2, q.f3, q.f4, true) else (0, 0, (⟨#[]⟩ : ByteArray), ([] : List ByteArray), ([] : List Ty), false)) :=
    Ev.step (f := fun k => (limbeckref07_opened.f k t.f0 t.f1 t.f2 t.f3 t.f4 a l).bind fun bt184 => ((limbeckref07_fitting.f k bt184.1 bt184.2.1 bt184.2.2.1 bt184.2.2.2.1 bt184.2.2.2.2).bind fun bt193 => (some (bt193.1, bt193.2.1, bt193.2.2.1, bt193.2.2.2.1, bt193.2.2.2.2.1, bt193.2.2.2.2.2)))) (fun _ => rfl) (Ev.bind h1 (Ev.bind hb (Ev.rets rfl)))
  have : Ev (fun k => limbeckref07_Open.f k t.f0 t.f1 t.f2 t.f3 t.f4 a l) (if b = true then (q.f0, q.f1, q.f2, q.f3, q.f4, true) else (0, 0, (⟨#[]⟩ : ByteArray), ([] : List ByteArray), ([] : List Ty), false)) := by
    unfold limbeckref07_Open.f
    refine Ev.neg (by omega) ?_
    rw [decide_eq_false (show ¬ a > 1073741824 by omega)]
    exact jf
  exact this.rounds
end Go.Proofs.Ytnfnhjhnfdkinaa.PConvBack

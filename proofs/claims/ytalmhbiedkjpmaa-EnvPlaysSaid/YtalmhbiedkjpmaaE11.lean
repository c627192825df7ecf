/-
  env: subst.Seal tells something of every type as long as there may be; what it tells is such a type.
-/
import Derived.Test.YtalmhbiedkjpmaaE10
namespace Go.Proofs.Ytalmhbiedkjpmaa.PEnvPlays
open Go.RowKit Go.Proofs.YtalmhbiedkjpmaaW.Mine Go.Proofs.YtalmhbiedkjpmaaW.PrintWords Go.Proofs.YtalmhbiedkjpmaaW.PrintLast Go.Proofs.YtalmhbiedkjpmaaW.PrintMore
set_option linter.unusedVariables false
set_option linter.unusedSimpArgs false
theorem index_l0 (l : List ByteArray) (s : ByteArray) (hl : l.length ≤ 20) (d i : Nat) (hd : d + i = l.length) : ∃ r, Ev (fun k => slices_Index_string_string.l0 k l s (l.length : Int) i) r := by
  induction d generalizing i with
  | zero => exact ⟨-1, Ev.step (fun _ => rfl) (Ev.neg (by omega) (Ev.rets rfl))⟩
  | succ d ih =>
    by_cases e : s.toList = (rdOf ByteArray.empty l (i : Int)).toList
    · exact ⟨(i : Int), Ev.step (fun _ => rfl) (Ev.pos (by omega) (Ev.pos (by omega) (Ev.pos (by omega) (Ev.pos e (Ev.rets rfl)))))⟩
    · obtain ⟨r, hr⟩ := ih (i + 1) (by omega)
      refine ⟨r, Ev.step (fun _ => rfl) (Ev.pos (by omega) (Ev.pos (by omega) (Ev.pos (by omega) (Ev.neg e ?_))))⟩
      rw [wrap_ok (show -9223372036854775808 ≤ (i : Int) + 1 by omega) (by omega)]
      exact hr
theorem index_told (l : List ByteArray) (s : ByteArray) (hl : l.length ≤ 20) : ∃ r, Ev (fun k => slices_Index_string_string.f k l s) r := index_l0 l s hl l.length 0 (by omega)
/-- Seal tells u of t. -/
def Seals (names : List ByteArray) (b : Int) (t u : Ty) : Prop := Ev (fun k => subst_Seal.f k t.f0 t.f1 t.f2 t.f3 t.f4 names b) (u.f0, u.f1, u.f2, u.f3, u.f4)
theorem seal_l0 (names : List ByteArray) (b : Int) (xs : List Ty) (hl : xs.length * 80 ≤ 140737488351232) (hs : ∀ y, y ∈ xs → ∃ u, Seals names b y u ∧ Okt u) (a0 a1 : Int) (a2 : ByteArray) (a3 : List ByteArray) (d i : Nat) (hd : d + i = xs.length) (acc : List Ty) (ha : acc.length = i) (hok : ∀ y, y ∈ acc → Okt y) :
    ∃ out, Ev (fun k => subst_Seal.l0 k names b xs (xs.length : Int) i a0 a1 a2 a3 acc) (a0, a1, a2, a3, out) ∧ out.length = xs.length ∧ ∀ y, y ∈ out → Okt y := by
  induction d generalizing i acc with
  | zero => exact ⟨acc, Ev.step (fun _ => rfl) (Ev.neg (by omega) (Ev.rets rfl)), by omega, hok⟩
  | succ d ih =>
    obtain ⟨u, hu, ou⟩ := hs _ (rdT_mem xs i (by omega))
    obtain ⟨u0, u1, u2, u3, u4⟩ := u
    obtain ⟨out, ho, h1, h2⟩ := ih (i + 1) (by omega) (acc ++ [⟨u0, u1, u2, u3, u4⟩]) (by simp [ha]) (fun y hy => by
      rcases List.mem_append.1 hy with h | h
      · exact hok y h
      · obtain rfl := List.mem_singleton.1 h
        exact ou)
    refine ⟨out, ?_, h1, h2⟩
    have key : Ev (fun k => if acc.length < 1759218604441 then (subst_Seal.l0 k names b xs (xs.length : Int) (wrap64 ((i : Int) + 1)) a0 a1 a2 a3 (acc ++ [(⟨u0, u1, u2, u3, u4⟩ : Ty)])) else none) (a0, a1, a2, a3, out) := by
      refine Ev.pos (by omega) ?_
      rw [wrap_ok (show -9223372036854775808 ≤ (i : Int) + 1 by omega) (by omega)]
      exact ho
    exact Ev.step (fun _ => rfl) (Ev.pos (by omega) (Ev.pos (by omega) (Ev.pos (by omega) (Ev.bind hu key))))
theorem seal_told (names : List ByteArray) (b : Int) (hn : names.length ≤ 20) : ∀ (n : Nat) (t : Ty), SizeOf.sizeOf t < n → Okt t → ∃ u, Seals names b t u ∧ Okt u
  | 0, _, h, _ => absurd h (Nat.not_lt_zero _)
  | n + 1, t, h, ho => by
    obtain ⟨ix, hix⟩ := index_told names t.f2 hn
    obtain ⟨out, hout, hlen, hok⟩ := seal_l0 names b t.f4 ho.l80 (fun y hy => seal_told names b hn n y (by have := size_args t y hy; omega) (ho.all y hy)) t.f0 t.f1 t.f2 t.f3 t.f4.length 0 (by omega) [] rfl (fun y hy => by cases hy)
    have oOut : Okt ⟨t.f0, t.f1, t.f2, t.f3, out⟩ := .mk _ ho.l3 (by have := ho.l80; show out.length * 80 ≤ _; omega) hok
    have oSeal : Okt ⟨9, wrap64 (b + ix), ⟨#[]⟩, [], []⟩ := .mk _ (by simp) (by simp) (fun y hy => by cases hy)
    have j1f : Ev (fun k => subst_Seal.j1 k names b ix false t.f0 t.f1 t.f2 t.f3 t.f4) (t.f0, t.f1, t.f2, t.f3, out) :=
      Ev.step (f := fun k => subst_Seal.l0 k names b t.f4 (t.f4.length : Int) 0 t.f0 t.f1 t.f2 t.f3 ([] : List Ty)) (fun _ => rfl) hout
    have j1t : Ev (fun k => subst_Seal.j1 k names b ix true t.f0 t.f1 t.f2 t.f3 t.f4) (9, wrap64 (b + ix), (⟨#[]⟩ : ByteArray), ([] : List ByteArray), ([] : List Ty)) :=
      Ev.step (f := fun _ => some (9, wrap64 (b + ix), (⟨#[]⟩ : ByteArray), ([] : List ByteArray), ([] : List Ty))) (fun _ => rfl) (Ev.rets rfl)
    have j0t : Ev (fun k => subst_Seal.j0 k names b true t.f0 t.f1 t.f2 t.f3 t.f4) (t.f0, t.f1, t.f2, t.f3, t.f4) :=
      Ev.step (f := fun _ => some (t.f0, t.f1, t.f2, t.f3, t.f4)) (fun _ => rfl) (Ev.rets rfl)
    have j0f : ∃ u : Ty, Ev (fun k => subst_Seal.j0 k names b false t.f0 t.f1 t.f2 t.f3 t.f4) (u.f0, u.f1, u.f2, u.f3, u.f4) ∧ Okt u := by
      have st : ∀ r, Ev (fun k => if t.f0 = 6 then subst_Seal.j1 k names b ix (decide (ix ≥ 0)) t.f0 t.f1 t.f2 t.f3 t.f4 else subst_Seal.j1 k names b ix false t.f0 t.f1 t.f2 t.f3 t.f4) r → Ev (fun k => subst_Seal.j0 k names b false t.f0 t.f1 t.f2 t.f3 t.f4) r := fun r hr =>
        Ev.step (f := fun k => (slices_Index_string_string.f k names t.f2).bind fun t123 => if t.f0 = 6 then subst_Seal.j1 k names b t123 (decide (t123 ≥ 0)) t.f0 t.f1 t.f2 t.f3 t.f4 else subst_Seal.j1 k names b t123 false t.f0 t.f1 t.f2 t.f3 t.f4) (fun _ => rfl) (Ev.bind hix hr)
      by_cases h6 : t.f0 = 6
      · by_cases hi : ix ≥ 0
        · exact ⟨⟨9, wrap64 (b + ix), ⟨#[]⟩, [], []⟩, st _ (Ev.pos h6 (by rw [decide_eq_true hi]; exact j1t)), oSeal⟩
        · exact ⟨⟨t.f0, t.f1, t.f2, t.f3, out⟩, st _ (Ev.pos h6 (by rw [decide_eq_false hi]; exact j1f)), oOut⟩
      · exact ⟨⟨t.f0, t.f1, t.f2, t.f3, out⟩, st _ (Ev.neg h6 j1f), oOut⟩
    by_cases hb : b < 0
    · exact ⟨t, Ev.step (fun _ => rfl) (Ev.pos hb j0t), ho⟩
    · cases hd : decide (b > (wrap64 (1073741824 - (names.length : Int)))) with
      | true => exact ⟨t, Ev.step (fun _ => rfl) (Ev.neg hb (by rw [hd]; exact j0t)), ho⟩
      | false =>
        obtain ⟨u, hu, ou⟩ := j0f
        exact ⟨u, Ev.step (fun _ => rfl) (Ev.neg hb (by rw [hd]; exact hu)), ou⟩
theorem sealed (names : List ByteArray) (b : Int) (hn : names.length ≤ 20) {t : Ty} (o : Okt t) : ∃ k r1 r2 r3 r4 r5, subst_Seal.f k t.f0 t.f1 t.f2 t.f3 t.f4 names b = some (r1, r2, r3, r4, r5) ∧ Okt ⟨r1, r2, r3, r4, r5⟩ := by
  obtain ⟨⟨r1, r2, r3, r4, r5⟩, h, ou⟩ := seal_told names b hn _ t (Nat.lt_succ_self _) o
  obtain ⟨k, hk⟩ := h.rounds
  exact ⟨k, r1, r2, r3, r4, r5, hk, ou⟩
end Go.Proofs.Ytalmhbiedkjpmaa.PEnvPlays

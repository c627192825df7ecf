/-
  env: what the reference's Seal, All and Find answer is what the program's Seal and Find answer, for every type and list as long as there may be.
-/
import Derived.Test.YtalmhbiedkjpmaaE14
import Derived.Test.YtalmhbiedkjpmaaPEnvPlaysx10
namespace Go.Proofs.Ytalmhbiedkjpmaa.PEnvPlays
open Go.RowKit Go.Proofs.YtalmhbiedkjpmaaW.Mine Go.Proofs.YtalmhbiedkjpmaaW.PrintWords Go.Proofs.YtalmhbiedkjpmaaW.PrintLast Go.Proofs.YtalmhbiedkjpmaaW.PrintMore
set_option linter.unusedVariables false
set_option linter.unusedSimpArgs false
theorem place_l0 (l : List ByteArray) (s : ByteArray) (hl : l.length ≤ 20) (d i : Nat) (hd : d + i = l.length) : ∃ r, Ev (fun k => slices_Index_string_string.l0 k l s (l.length : Int) i) r ∧ Ev (fun k => limbeckref01_Place.l0 k l s i) r := by
  induction d generalizing i with
  | zero => exact ⟨-1, Ev.step (fun _ => rfl) (Ev.neg (by omega) (Ev.rets rfl)), Ev.step (fun _ => rfl) (Ev.neg (by omega) (Ev.rets rfl))⟩
  | succ d ih =>
    by_cases e : s.toList = (rdOf ByteArray.empty l (i : Int)).toList
    · exact ⟨(i : Int), Ev.step (fun _ => rfl) (Ev.pos (by omega) (Ev.pos (by omega) (Ev.pos (by omega) (Ev.pos e (Ev.rets rfl))))), Ev.step (fun _ => rfl) (Ev.pos (by omega) (Ev.pos (by omega) (Ev.pos e.symm (Ev.rets rfl))))⟩
    · obtain ⟨r, hr, hr'⟩ := ih (i + 1) (by omega)
      refine ⟨r, Ev.step (fun _ => rfl) (Ev.pos (by omega) (Ev.pos (by omega) (Ev.pos (by omega) (Ev.neg e ?_)))), Ev.step (fun _ => rfl) (Ev.pos (by omega) (Ev.pos (by omega) (Ev.neg (fun h => e h.symm) ?_)))⟩
      · rw [wrap_ok (show -9223372036854775808 ≤ (i : Int) + 1 by omega) (by omega)]
        exact hr
      · rw [wrap_ok (show -9223372036854775808 ≤ (i : Int) + 1 by omega) (by omega)]
        exact hr'
theorem place_told (l : List ByteArray) (s : ByteArray) (hl : l.length ≤ 20) : ∃ r, Ev (fun k => slices_Index_string_string.f k l s) r ∧ Ev (fun k => limbeckref01_Place.f k l s) r := place_l0 l s hl l.length 0 (by omega)
/-- The reference's sealed tells u of t; its Seal does. -/
def Sealeds (names : List ByteArray) (b : Int) (t u : Ty) : Prop := Ev (fun k => limbeckref07_sealed.f k t.f0 t.f1 t.f2 t.f3 t.f4 names b) (u.f0, u.f1, u.f2, u.f3, u.f4)
def RSeals (names : List ByteArray) (b : Int) (t u : Ty) : Prop := Ev (fun k => limbeckref07_Seal.f k t.f0 t.f1 t.f2 t.f3 t.f4 names b) (u.f0, u.f1, u.f2, u.f3, u.f4)
theorem both_l0 (names : List ByteArray) (b : Int) (xs : List Ty) (hl : xs.length * 80 ≤ 140737488351232) (hs : ∀ y, y ∈ xs → ∃ u, Seals names b y u ∧ Sealeds names b y u ∧ Okt u) (a0 a1 : Int) (a2 : ByteArray) (a3 : List ByteArray) (d i : Nat) (hd : d + i = xs.length) (acc : List Ty) (ha : acc.length = i) (hok : ∀ y, y ∈ acc → Okt y) :
    ∃ out, Ev (fun k => subst_Seal.l0 k names b xs (xs.length : Int) i a0 a1 a2 a3 acc) (a0, a1, a2, a3, out) ∧ Ev (fun k => limbeckref07_sealed.l0 k names b i a0 a1 a2 a3 xs a0 a1 a2 a3 acc) (a0, a1, a2, a3, out) ∧ out.length = xs.length ∧ ∀ y, y ∈ out → Okt y := by
  induction d generalizing i acc with
  | zero => exact ⟨acc, Ev.step (fun _ => rfl) (Ev.neg (by omega) (Ev.rets rfl)), Ev.step (fun _ => rfl) (Ev.neg (by omega) (Ev.rets rfl)), by omega, hok⟩
  | succ d ih =>
    obtain ⟨u, hu, hv, ou⟩ := hs _ (rdT_mem xs i (by omega))
    obtain ⟨u0, u1, u2, u3, u4⟩ := u
    obtain ⟨out, ho, hp, h1, h2⟩ := ih (i + 1) (by omega) (acc ++ [⟨u0, u1, u2, u3, u4⟩]) (by simp [ha]) (fun y hy => by
      rcases List.mem_append.1 hy with h | h
      · exact hok y h
      · obtain rfl := List.mem_singleton.1 h
        exact ou)
    refine ⟨out, ?_, ?_, h1, h2⟩
    · have key : Ev (fun k => if acc.length < 1759218604441 then (subst_Seal.l0 k names b xs (xs.length : Int) (wrap64 ((i : Int) + 1)) a0 a1 a2 a3 (acc ++ [(⟨u0, u1, u2, u3, u4⟩ : Ty)])) else none) (a0, a1, a2, a3, out) := by
        refine Ev.pos (by omega) ?_
        rw [wrap_ok (show -9223372036854775808 ≤ (i : Int) + 1 by omega) (by omega)]
        exact ho
      exact Ev.step (fun _ => rfl) (Ev.pos (by omega) (Ev.pos (by omega) (Ev.pos (by omega) (Ev.bind hu key))))
    · have key : Ev (fun k => if acc.length < 1759218604441 then (limbeckref07_sealed.l0 k names b (wrap64 ((i : Int) + 1)) a0 a1 a2 a3 xs a0 a1 a2 a3 (acc ++ [(⟨u0, u1, u2, u3, u4⟩ : Ty)])) else none) (a0, a1, a2, a3, out) := by
        refine Ev.pos (by omega) ?_
        rw [wrap_ok (show -9223372036854775808 ≤ (i : Int) + 1 by omega) (by omega)]
        exact hp
      exact Ev.step (fun _ => rfl) (Ev.pos (by omega) (Ev.pos (by omega) (Ev.bind hv key)))
theorem both_told (names : List ByteArray) (b : Int) (hn : names.length ≤ 20) (hb : ¬ b < 0) (hm : ¬ b > wrap64 (1073741824 - (names.length : Int))) : ∀ (n : Nat) (t : Ty), SizeOf.sizeOf t < n → Okt t → ∃ u, Seals names b t u ∧ Sealeds names b t u ∧ Okt u
  | 0, _, h, _ => absurd h (Nat.not_lt_zero _)
  | n + 1, t, h, ho => by
    obtain ⟨ix, hix, hpl⟩ := place_told names t.f2 hn
    obtain ⟨out, hout, hout', hlen, hok⟩ := both_l0 names b t.f4 ho.l80 (fun y hy => both_told names b hn hb hm n y (by have := size_args t y hy; omega) (ho.all y hy)) t.f0 t.f1 t.f2 t.f3 t.f4.length 0 (by omega) [] rfl (fun y hy => by cases hy)
    have oOut : Okt ⟨t.f0, t.f1, t.f2, t.f3, out⟩ := .mk _ ho.l3 (by have := ho.l80; show out.length * 80 ≤ _; omega) hok
    have oSeal : Okt ⟨9, wrap64 (b + ix), ⟨#[]⟩, [], []⟩ := .mk _ (by simp) (by simp) (fun y hy => by cases hy)
    have j1f : Ev (fun k => subst_Seal.j1 k names b ix false t.f0 t.f1 t.f2 t.f3 t.f4) (t.f0, t.f1, t.f2, t.f3, out) :=
      Ev.step (f := fun k => subst_Seal.l0 k names b t.f4 (t.f4.length : Int) 0 t.f0 t.f1 t.f2 t.f3 ([] : List Ty)) (fun _ => rfl) hout
    have j1t : Ev (fun k => subst_Seal.j1 k names b ix true t.f0 t.f1 t.f2 t.f3 t.f4) (9, wrap64 (b + ix), (⟨#[]⟩ : ByteArray), ([] : List ByteArray), ([] : List Ty)) :=
      Ev.step (f := fun _ => some (9, wrap64 (b + ix), (⟨#[]⟩ : ByteArray), ([] : List ByteArray), ([] : List Ty))) (fun _ => rfl) (Ev.rets rfl)
    have st : ∀ r, Ev (fun k => if t.f0 = 6 then subst_Seal.j1 k names b ix (decide (ix ≥ 0)) t.f0 t.f1 t.f2 t.f3 t.f4 else subst_Seal.j1 k names b ix false t.f0 t.f1 t.f2 t.f3 t.f4) r → Ev (fun k => subst_Seal.f k t.f0 t.f1 t.f2 t.f3 t.f4 names b) r := fun r hr =>
      Ev.step (fun _ => rfl) (Ev.neg hb (by
        rw [decide_eq_false hm]
        exact Ev.step (f := fun k => (slices_Index_string_string.f k names t.f2).bind fun t123 => if t.f0 = 6 then subst_Seal.j1 k names b t123 (decide (t123 ≥ 0)) t.f0 t.f1 t.f2 t.f3 t.f4 else subst_Seal.j1 k names b t123 false t.f0 t.f1 t.f2 t.f3 t.f4) (fun _ => rfl) (Ev.bind hix hr)))
    have rj : Ev (fun k => limbeckref07_sealed.j0 k names b t.f0 t.f1 t.f2 t.f3 t.f4) (t.f0, t.f1, t.f2, t.f3, out) :=
      Ev.step (f := fun k => limbeckref07_sealed.l0 k names b 0 t.f0 t.f1 t.f2 t.f3 t.f4 t.f0 t.f1 t.f2 t.f3 ([] : List Ty)) (fun _ => rfl) hout'
    by_cases h6 : t.f0 = 6
    · have rst : ∀ r, Ev (fun k => if ix ≥ 0 then ((limbeckref04_Seal.f (wrap64 (b + ix))).bind fun bt => (some (bt.1, bt.2.1, bt.2.2.1, bt.2.2.2.1, bt.2.2.2.2))) else (limbeckref07_sealed.j0 k names b t.f0 t.f1 t.f2 t.f3 t.f4)) r → Ev (fun k => limbeckref07_sealed.f k t.f0 t.f1 t.f2 t.f3 t.f4 names b) r := fun r hr =>
        Ev.step (fun _ => rfl) (Ev.pos h6 (Ev.bind hpl hr))
      by_cases hi : ix ≥ 0
      · exact ⟨⟨9, wrap64 (b + ix), ⟨#[]⟩, [], []⟩, st _ (Ev.pos h6 (by rw [decide_eq_true hi]; exact j1t)), rst _ (Ev.pos hi (Ev.bindc (a := (9, wrap64 (b + ix), (⟨#[]⟩ : ByteArray), ([] : List ByteArray), ([] : List Ty))) rfl (Ev.rets rfl))), oSeal⟩
      · exact ⟨⟨t.f0, t.f1, t.f2, t.f3, out⟩, st _ (Ev.pos h6 (by rw [decide_eq_false hi]; exact j1f)), rst _ (Ev.neg hi rj), oOut⟩
    · exact ⟨⟨t.f0, t.f1, t.f2, t.f3, out⟩, st _ (Ev.neg h6 j1f), Ev.step (fun _ => rfl) (Ev.neg h6 rj), oOut⟩
theorem seals_both (names : List ByteArray) (b : Int) (hn : names.length ≤ 20) {t : Ty} (o : Okt t) : ∃ u, Seals names b t u ∧ RSeals names b t u ∧ Okt u := by
  have j0t : Ev (fun k => subst_Seal.j0 k names b true t.f0 t.f1 t.f2 t.f3 t.f4) (t.f0, t.f1, t.f2, t.f3, t.f4) :=
    Ev.step (f := fun _ => some (t.f0, t.f1, t.f2, t.f3, t.f4)) (fun _ => rfl) (Ev.rets rfl)
  by_cases hb : b < 0
  · exact ⟨t, Ev.step (fun _ => rfl) (Ev.pos hb j0t), Ev.pos hb (Ev.rets rfl), o⟩
  · by_cases hm : b > wrap64 (1073741824 - (names.length : Int))
    · exact ⟨t, Ev.step (fun _ => rfl) (Ev.neg hb (by rw [decide_eq_true hm]; exact j0t)), Ev.neg hb (Ev.pos hm (Ev.rets rfl)), o⟩
    · obtain ⟨u, h1, h2, ou⟩ := both_told names b hn hb hm _ t (Nat.lt_succ_self _) o
      exact ⟨u, h1, Ev.neg hb (Ev.neg hm (Ev.bind h2 (Ev.rets rfl))), ou⟩
/-- What both tell of a type. -/
def BothS (names : List ByteArray) (b : Int) (t u : Ty) : Prop := Seals names b t u ∧ RSeals names b t u ∧ Okt u
open Classical in
noncomputable def sealT (names : List ByteArray) (b : Int) (t : Ty) : Ty := if h : ∃ u, BothS names b t u then Classical.choose h else t
theorem sealT_both (names : List ByteArray) (b : Int) (hn : names.length ≤ 20) {t : Ty} (o : Okt t) : BothS names b t (sealT names b t) := by
  have h : ∃ u, BothS names b t u := seals_both names b hn o
  unfold sealT
  rw [dif_pos h]
  exact Classical.choose_spec h
theorem sealT_prog (names : List ByteArray) (b : Int) (hn : names.length ≤ 20) {t : Ty} (o : Okt t) : ∃ k, subst_Seal.f k t.f0 t.f1 t.f2 t.f3 t.f4 names b = some ((sealT names b t).f0, (sealT names b t).f1, (sealT names b t).f2, (sealT names b t).f3, (sealT names b t).f4) := (sealT_both names b hn o).1.rounds
theorem sealT_ref (names : List ByteArray) (b : Int) (hn : names.length ≤ 20) {t : Ty} (o : Okt t) : ∃ k, limbeckref07_Seal.f k t.f0 t.f1 t.f2 t.f3 t.f4 names b = some ((sealT names b t).f0, (sealT names b t).f1, (sealT names b t).f2, (sealT names b t).f3, (sealT names b t).f4) := (sealT_both names b hn o).2.1.rounds
theorem all_l0 (names : List ByteArray) (b : Int) (hn : names.length ≤ 20) (l : List Ty) (hl : l.length * 80 ≤ 140737488351232) (ho : ∀ y, y ∈ l → Okt y) (d i : Nat) (hd : d + i = l.length) : Ev (fun k => limbeckref34_All.l0 k l names b ((l.take i).map (sealT names b)) i) (l.map (sealT names b)) := by
  induction d generalizing i with
  | zero => exact Ev.step (fun _ => rfl) (Ev.neg (by omega) (Ev.rets (by rw [List.take_of_length_le (by omega)])))
  | succ d ih =>
    have hi : i < l.length := by omega
    have q : rd_T31 l (i : Int) = l[i] := getD_at _ l i hi
    have h1 := (sealT_both names b hn (ho _ (List.getElem_mem hi))).2.1
    refine Ev.step (fun _ => rfl) (Ev.pos (by omega) (Ev.pos (by omega) ?_))
    rw [q]
    refine Ev.bind h1 (Ev.pos (by rw [List.length_map, List.length_take]; omega) ?_)
    rw [wrap_ok (show -9223372036854775808 ≤ (i : Int) + 1 by omega) (by omega)]
    have e : (l.take i).map (sealT names b) ++ [(⟨(sealT names b l[i]).f0, (sealT names b l[i]).f1, (sealT names b l[i]).f2, (sealT names b l[i]).f3, (sealT names b l[i]).f4⟩ : Ty)] = (l.take (i + 1)).map (sealT names b) := by
      rw [List.take_succ_eq_append_getElem hi, List.map_append, List.map_cons, List.map_nil]
      generalize sealT names b l[i] = u
      cases u
      rfl
    show Ev (fun k => limbeckref34_All.l0 k l names b ((l.take i).map (sealT names b) ++ [(⟨(sealT names b l[i]).f0, (sealT names b l[i]).f1, (sealT names b l[i]).f2, (sealT names b l[i]).f3, (sealT names b l[i]).f4⟩ : Ty)]) ((i : Int) + 1)) _
    rw [e]
    exact ih (i + 1) (by omega)
theorem all_told (names : List ByteArray) (b : Int) (hn : names.length ≤ 20) (l : List Ty) (hl : l.length * 80 ≤ 140737488351232) (ho : ∀ y, y ∈ l → Okt y) : ∃ k, limbeckref34_All.f k l names b = some (l.map (sealT names b)) :=
  (all_l0 names b hn l hl ho l.length 0 (by omega)).rounds
/-- What the reference's Find tells. -/
abbrev tupV (x : Vl) (b : Bool) : Int × Int × Int × Bool × ByteArray × ByteArray × Int × List Ty × List ByteArray × List Vl × Bool := (x.f0, x.f1, x.f2, x.f3, x.f4, x.f5.f0, x.f5.f1, x.f6, x.f7, x.f8, b)
theorem rfind_l0 (l : List Sl) (s : ByteArray) (hl : l.length < 4611686018427387904) (j : Nat) (hj : j ≤ l.length) : Ev (fun k => limbeckref34_Find.l0 k l s ((j : Int) - 1)) (tupV (fv (l.take j).reverse s) (fb (l.take j).reverse s)) := by
  induction j with
  | zero => exact Ev.step (fun _ => rfl) (Ev.neg (by omega) (Ev.rets rfl))
  | succ j ih =>
    have hi : j < l.length := by omega
    have q : rd_T54 l (j : Int) = l[j] := getD_at _ l j hi
    have e : (l.take (j + 1)).reverse = l[j] :: (l.take j).reverse := by rw [List.take_succ_eq_append_getElem hi, List.reverse_append]; rfl
    rw [e, show ((j + 1 : Nat) : Int) - 1 = (j : Int) by omega]
    refine Ev.step (fun _ => rfl) (Ev.pos (by omega) (Ev.pos (by omega) (Ev.pos (by omega) ?_)))
    rw [q]
    cases hx : eqText l[j].f0 s with
    | true =>
      have hx' : l[j].f0.toList = s.toList := eq_of_beq hx
      have e1 : fv (l[j] :: (l.take j).reverse) s = l[j].f1 := by
        unfold fv
        rw [show (l[j] :: (l.take j).reverse).find? (fun x => eqText x.f0 s) = some l[j] from List.find?_cons_of_pos hx]
      have e2 : fb (l[j] :: (l.take j).reverse) s = true := by
        unfold fb
        rw [show (l[j] :: (l.take j).reverse).find? (fun x => eqText x.f0 s) = some l[j] from List.find?_cons_of_pos hx]
        rfl
      rw [e1, e2]
      exact Ev.pos hx' (Ev.rets rfl)
    | false =>
      have hx' : ¬ l[j].f0.toList = s.toList := fun h => by
        have : eqText l[j].f0 s = true := by unfold eqText; rw [h]; exact beq_self_eq_true _
        rw [hx] at this
        cases this
      rw [fv_tail _ _ _ hx, fb_tail _ _ _ hx]
      refine Ev.neg hx' ?_
      rw [wrap_ok (show -9223372036854775808 ≤ (j : Int) - 1 by omega) (by omega)]
      exact ih (by omega)
theorem rfind_told (l : List Sl) (s : ByteArray) (hl : l.length < 4611686018427387904) : ∃ k, limbeckref34_Find.f k l s = some (tupV (fv l.reverse s) (fb l.reverse s)) := by
  have h := rfind_l0 l s hl l.length (Nat.le_refl _)
  rw [List.take_of_length_le (Nat.le_refl _)] at h
  have e : wrap64 ((l.length : Int) - 1) = (l.length : Int) - 1 := wrap_ok (by omega) (by omega)
  obtain ⟨k, hk⟩ := h.rounds
  refine ⟨k, ?_⟩
  unfold limbeckref34_Find.f
  rw [e]
  exact hk
theorem few_l0 (l : List S33) (hl : l.length * 16 ≤ 140737488351232) (ho : ∀ y, y ∈ l → Okt y.f1) (d i : Nat) (hd : d + i = l.length) (n : Int) : ∃ r, Ev (fun k => limbecklaw07_Few.l0 k l n i) r := by
  have fin : ∀ n : Int, ∃ r, Ev (fun _ : Nat => if (l.length : Int) > 20 then some (5000 : Int) else some n) r := fun n => by
    by_cases h : (l.length : Int) > 20
    · exact ⟨5000, Ev.pos h (Ev.rets rfl)⟩
    · exact ⟨n, Ev.neg h (Ev.rets rfl)⟩
  induction d generalizing i n with
  | zero =>
    obtain ⟨r, hr⟩ := fin n
    exact ⟨r, Ev.step (fun _ => rfl) (Ev.neg (by omega) hr)⟩
  | succ d ih =>
    by_cases h20 : (i : Int) < 20
    · have hi : i < l.length := by omega
      have q : rd_T33 l (i : Int) = l[i] := getD_at _ l i hi
      obtain ⟨t, ht⟩ := much_told _ l[i].f1 (Nat.lt_succ_self _) (ho _ (List.getElem_mem hi))
      obtain ⟨r, hr⟩ := ih (i + 1) (by omega) (mx (mx n t) (wrap64 ((((rd_T33 l (i : Int)).f0).size : Int) / 8)))
      refine ⟨r, Ev.step (fun _ => rfl) (Ev.pos (by omega) (Ev.pos h20 (Ev.pos (by omega) ?_)))⟩
      refine Ev.bind (a := t) (by rw [q]; exact ht) ?_
      rw [wrap_ok (show -9223372036854775808 ≤ (i : Int) + 1 by omega) (by omega)]
      exact hr
    · obtain ⟨r, hr⟩ := fin n
      exact ⟨r, Ev.step (fun _ => rfl) (Ev.pos (by omega) (Ev.neg h20 hr))⟩
theorem few_told (l : List S33) (hl : l.length * 16 ≤ 140737488351232) (ho : ∀ y, y ∈ l → Okt y.f1) : ∃ k r, limbecklaw07_Few.f k l = some r := by
  obtain ⟨r, hr⟩ := few_l0 l hl ho l.length 0 (by omega) 0
  obtain ⟨k, hk⟩ := hr.rounds
  exact ⟨k, r, hk⟩
end Go.Proofs.Ytalmhbiedkjpmaa.PEnvPlays

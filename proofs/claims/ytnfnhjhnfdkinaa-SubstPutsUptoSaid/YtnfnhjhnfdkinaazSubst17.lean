/-
  Subst: texts of this claim, put together by a program of this session. No conditions beyond what each lemma says.
-/
import Derived.Test.YtnfnhjhnfdkinaazSubst15
import Derived.Test.YtnfnhjhnfdkinaazSubst16
namespace Go.Proofs.Ytnfnhjhnfdkinaa.PSubstPuts
open Go.RowKit Go.Proofs.YtnfnhjhnfdkinaaW.Mine Go.Proofs.YtnfnhjhnfdkinaaW.PrintWords Go.Proofs.YtnfnhjhnfdkinaaW.PrintLast Go.Proofs.YtnfnhjhnfdkinaaW.PrintMore
attribute [local go_sem] max2_int min2_int max_two min_two max_three min_three max_four min_four
set_option linter.unusedVariables false
set_option linter.unusedSimpArgs false
theorem heapBi : Kd.Heap kBi := k43_heap
/-- What a type leads to is read so; a list of bindings; a list of names. -/
def RT (w : World) (x : Ty) (A3 : Option Addr) (c3 : Nat) (A4 : Option Addr) (c4 : Nat) : Prop := x.f3.length ≤ c3 ∧ Kd.string.C w A3 x.f3.length x.f3 ∧ x.f4.length ≤ c4 ∧ kTy.C w A4 x.f4.length x.f4
section
variable {w w1 : World} {x : Ty} {A3 A4 : Option Addr} {c3 c4 g : Nat}
theorem RT.below (h : RT w x A3 c3 A4 c4) (hb : Below w.heap.size w w1) : RT w1 x A3 c3 A4 c4 := ⟨h.1, Kd.C_below h.2.1 hb, h.2.2.1, Kd.C_below h.2.2.2 hb⟩
theorem RT.ft (h : RT w x A3 c3 A4 c4) : FT w (fun k => k < w.heap.size) x A3 c3 A4 c4 := FT.start h.1 h.2.1 h.2.2.1 h.2.2.2
theorem FT.rt {ok : Nat → Prop} (h : FT w ok x A3 c3 A4 c4) : RT w x A3 c3 A4 c4 := ⟨h.1, h.r3, h.2.2.1, h.r4⟩
theorem RT.zero (w : World) : RT w z25 none 0 none 0 := ⟨Nat.le_refl _, Kd.C_nil _ w, Nat.le_refl _, Kd.C_nil _ w⟩
end
def RB (w : World) (A : Option Addr) (c : Nat) (l : List Bi) : Prop := kBi.C w A l.length l ∧ l.length ≤ c
theorem RB.below {w w1 : World} {A : Option Addr} {c : Nat} {l : List Bi} (h : RB w A c l) (hb : Below w.heap.size w w1) : RB w1 A c l := ⟨Kd.C_below h.1 hb, h.2⟩
def RN (w : World) (A : Option Addr) (c : Nat) (l : List ByteArray) : Prop := Kd.string.C w A l.length l ∧ l.length ≤ c
theorem RN.below {w w1 : World} {A : Option Addr} {c : Nat} {l : List ByteArray} (h : RN w A c l) (hb : Below w.heap.size w w1) : RN w1 A c l := ⟨Kd.C_below h.1 hb, h.2⟩
def Yes (w : World) (e : Ending) (w' : World) : Prop := e = .returned (.bool true) ∧ Below w.heap.size w w'
/-! ### What they answer -/
theorem Okt.sm : ∀ (n : Nat) (x : Ty), SizeOf.sizeOf x < n → Okt x → Sm x
  | 0, _, h, _ => absurd h (Nat.not_lt_zero _)
  | n + 1, x, h, o => .mk x o.l80 (fun y hy => Okt.sm n y (by have := size_args x y hy; omega) (o.all y hy))
theorem okt_sm {x : Ty} (o : Okt x) : Sm x := Okt.sm _ x (Nat.lt_succ_self _) o
theorem rdB_at (l : List Bi) (i : Nat) (h : i < l.length) : rd_T43 l (i : Int) = l[i] := getD_at _ l i h
theorem few_l0 (m : List Bi) (hm : m.length ≤ 140737488351232) (ho : ∀ b, b ∈ m → Okt b.f1) (d i : Nat) (hd : d + i = m.length) (x : Int) : ∃ r, Ev (fun k => limbecklaw07_Few.l0 k m x i) r ∧ (m.length ≤ 20 ∨ r = 5000) := by
  induction d generalizing i x with
  | zero =>
    by_cases h : (m.length : Int) > 20
    · exact ⟨5000, Ev.step (fun _ => rfl) (Ev.neg (by omega) (Ev.pos h (Ev.rets rfl))), .inr rfl⟩
    · exact ⟨x, Ev.step (fun _ => rfl) (Ev.neg (by omega) (Ev.neg h (Ev.rets rfl))), .inl (by omega)⟩
  | succ d ih =>
    by_cases h20 : (i : Int) < 20
    · have hi : i < m.length := by omega
      obtain ⟨v, hv⟩ := much_told _ m[i].f1 (Nat.lt_succ_self _) (ho _ (List.getElem_mem hi))
      rw [← rdB_at m i hi] at hv
      obtain ⟨r, hr, h⟩ := ih (i + 1) (by omega) (mx (mx x v) (wrap64 ((((rd_T43 m i).f0).size : Int) / 8)))
      refine ⟨r, Ev.step (fun _ => rfl) (Ev.pos (by omega) (Ev.pos h20 (Ev.pos (by omega) (Ev.bind hv ?_)))), h⟩
      rw [wrap_ok (show -9223372036854775808 ≤ (i : Int) + 1 by omega) (by omega)]
      exact hr
    · exact ⟨5000, Ev.step (fun _ => rfl) (Ev.pos (by omega) (Ev.neg h20 (Ev.pos (by omega) (Ev.rets rfl)))), .inr rfl⟩
theorem few_told (m : List Bi) (hm : m.length ≤ 140737488351232) (ho : ∀ b, b ∈ m → Okt b.f1) : ∃ k r, limbecklaw07_Few.f k m = some r ∧ (m.length ≤ 20 ∨ r = 5000) := by
  obtain ⟨r, hr, h⟩ := few_l0 m hm ho m.length 0 (by omega) 0
  have : Ev (fun k => limbecklaw07_Few.f k m) r := hr
  obtain ⟨k, hk⟩ := this.rounds
  exact ⟨k, r, hk, h⟩
theorem types_l0' (m : List Bi) (hm : m.length * 80 ≤ 140737488351232) (d i : Nat) (hd : d + i = m.length) : Ev (fun k => limbecklaw07_types.l0 k m ((m.take i).map (·.f1)) i) (m.map (·.f1)) := by
  induction d generalizing i with
  | zero => exact Ev.step (fun _ => rfl) (Ev.neg (by omega) (Ev.rets (by rw [List.take_of_length_le (by omega)])))
  | succ d ih =>
    have hi : i < m.length := by omega
    have e : (m.take i).map (·.f1) ++ [(⟨(rd_T43 m i).f1.f0, (rd_T43 m i).f1.f1, (rd_T43 m i).f1.f2, (rd_T43 m i).f1.f3, (rd_T43 m i).f1.f4⟩ : Ty)] = (m.take (i + 1)).map (·.f1) := by
      rw [ty_eta, rdB_at m i hi, List.take_succ_eq_append_getElem hi, List.map_append]; rfl
    have key : Ev (fun k => if ((m.take i).map (·.f1)).length < 1759218604441 then (limbecklaw07_types.l0 k m ((m.take i).map (·.f1) ++ [(⟨(rd_T43 m i).f1.f0, (rd_T43 m i).f1.f1, (rd_T43 m i).f1.f2, (rd_T43 m i).f1.f3, (rd_T43 m i).f1.f4⟩ : Ty)]) (wrap64 ((i : Int) + 1))) else none) (m.map (·.f1)) := by
      refine Ev.pos (by rw [List.length_map, List.length_take]; omega) ?_
      rw [e, wrap_ok (show -9223372036854775808 ≤ (i : Int) + 1 by omega) (by omega)]
      exact ih (i + 1) (by omega)
    exact Ev.step (fun _ => rfl) (Ev.pos (by omega) (Ev.pos (by omega) key))
theorem types_told (m : List Bi) (hm : m.length * 80 ≤ 140737488351232) : ∃ k, limbecklaw07_types.f k m = some (m.map (·.f1)) := by
  have : Ev (fun k => limbecklaw07_types.f k m) (m.map (·.f1)) := types_l0' m hm m.length 0 (by omega)
  exact this.rounds
def evHas (c : Int) (x : Ty) : Prop := Ev (fun k => limbeckref04_Has.f k x.f0 x.f1 x.f2 x.f3 x.f4 c) (has c x)
theorem has_l0 (c : Int) (x : Ty) (hl : x.f4.length ≤ 140737488351232) (hs : ∀ y, y ∈ x.f4 → evHas c y) (d i : Nat) (hd : d + i = x.f4.length) : Ev (fun k => limbeckref04_Has.l0 k c i x.f0 x.f1 x.f2 x.f3 x.f4) (hasAny c (x.f4.drop i)) := by
  induction d generalizing i with
  | zero => exact Ev.step (fun _ => rfl) (Ev.neg (by omega) (Ev.rets (by rw [List.drop_eq_nil_of_le (by omega), hasAny_nil])))
  | succ d ih =>
    have hi : i < x.f4.length := by omega
    have h1 := hs _ (rdT_mem x.f4 i hi)
    have e : hasAny c (x.f4.drop i) = if has c (rd_T25 x.f4 i) = true then true else hasAny c (x.f4.drop (i + 1)) := by
      rw [rdT_at x.f4 i hi, List.drop_eq_getElem_cons hi, hasAny_cons]
    rw [e]
    refine Ev.step (fun _ => rfl) (Ev.pos (by omega) (Ev.pos (by omega) (Ev.bind h1 ?_)))
    cases hb : has c (rd_T25 x.f4 i) with
    | true => exact Ev.pos rfl (Ev.rets rfl)
    | false =>
      refine Ev.neg (by decide) ?_
      rw [wrap_ok (show -9223372036854775808 ≤ (i : Int) + 1 by omega) (by omega), if_neg (by decide)]
      exact ih (i + 1) (by omega)
theorem has_f (c : Int) : ∀ (n : Nat) (x : Ty), SizeOf.sizeOf x < n → Okt x → evHas c x
  | 0, _, h, _ => absurd h (Nat.not_lt_zero _)
  | n + 1, x, h, o => by
    unfold evHas
    rw [has_eq]
    by_cases h0 : x.f0 = c
    · rw [if_pos h0]
      exact Ev.step (fun _ => rfl) (Ev.pos h0 (Ev.rets rfl))
    · rw [if_neg h0]
      have := has_l0 c x o.l4 (fun y hy => has_f c n y (by have := size_args x y hy; omega) (o.all y hy)) x.f4.length 0 (by omega)
      rw [List.drop_zero] at this
      exact Ev.step (fun _ => rfl) (Ev.neg h0 this)
theorem has_told (c : Int) {x : Ty} (o : Okt x) : ∃ k, limbeckref04_Has.f k x.f0 x.f1 x.f2 x.f3 x.f4 c = some (has c x) := (has_f c _ x (Nat.lt_succ_self _) o).rounds
/-! ### Seal -/
theorem index_l0 (l : List ByteArray) (s : ByteArray) (hl : l.length ≤ 140737488351232) (d i : Nat) (hd : d + i = l.length) (hn : ∀ j (hj : j < l.length), j < i → eqText l[j] s = false) : Ev (fun k => slices_Index_string_string.l0 k l s (l.length : Int) i) (pix l s) := by
  induction d generalizing i with
  | zero => exact Ev.step (fun _ => rfl) (Ev.neg (by omega) (Ev.rets (pix_none (fun j hj => hn j hj (by omega))).symm))
  | succ d ih =>
    have hi : i < l.length := by omega
    have er : rdOf ByteArray.empty l (i : Int) = l[i] := by unfold rdOf; rw [Int.toNat_natCast, List.getD_eq_getElem?_getD, List.getElem?_eq_getElem hi]; rfl
    by_cases e : s.toList = (rdOf ByteArray.empty l (i : Int)).toList
    · refine Ev.step (fun _ => rfl) (Ev.pos (by omega) (Ev.pos (by omega) (Ev.pos (by omega) (Ev.pos e (Ev.rets ?_)))))
      exact (pix_at hi (by unfold eqText; rw [er] at e; rw [← e]; simp) hn).symm
    · refine Ev.step (fun _ => rfl) (Ev.pos (by omega) (Ev.pos (by omega) (Ev.pos (by omega) (Ev.neg e ?_))))
      rw [wrap_ok (show -9223372036854775808 ≤ (i : Int) + 1 by omega) (by omega)]
      refine ih (i + 1) (by omega) (fun j hj hji => ?_)
      rcases Nat.lt_succ_iff_lt_or_eq.1 hji with h | rfl
      · exact hn j hj h
      · unfold eqText; rw [er] at e; simp only [beq_eq_false_iff_ne, ne_eq]; exact fun h => e h.symm
theorem index_told (l : List ByteArray) (s : ByteArray) (hl : l.length ≤ 140737488351232) : Ev (fun k => slices_Index_string_string.f k l s) (pix l s) := index_l0 l s hl l.length 0 (by omega) (fun _ _ h => absurd h (Nat.not_lt_zero _))
def Seals (names : List ByteArray) (b : Int) (t u : Ty) : Prop := Ev (fun k => subst_Seal.f k t.f0 t.f1 t.f2 t.f3 t.f4 names b) (u.f0, u.f1, u.f2, u.f3, u.f4)
theorem seal_l0 (names : List ByteArray) (b : Int) (xs : List Ty) (hl : xs.length * 80 ≤ 140737488351232) (hs : ∀ y, y ∈ xs → Seals names b y (sealed names b y)) (a0 a1 : Int) (a2 : ByteArray) (a3 : List ByteArray) (d i : Nat) (hd : d + i = xs.length) :
    Ev (fun k => subst_Seal.l0 k names b xs (xs.length : Int) i a0 a1 a2 a3 ((xs.take i).map (sealed names b))) (a0, a1, a2, a3, xs.map (sealed names b)) := by
  induction d generalizing i with
  | zero => exact Ev.step (fun _ => rfl) (Ev.neg (by omega) (Ev.rets (by rw [List.take_of_length_le (by omega)])))
  | succ d ih =>
    have hi : i < xs.length := by omega
    have hu := hs _ (rdT_mem xs i hi)
    have e : (xs.take i).map (sealed names b) ++ [sealed names b (rd_T25 xs i)] = (xs.take (i + 1)).map (sealed names b) := by
      rw [rdT_at xs i hi, List.take_succ_eq_append_getElem hi, List.map_append]; rfl
    have hlen : ((xs.take i).map (sealed names b)).length = i := by rw [List.length_map, List.length_take]; omega
    have ih := ih (i + 1) (by omega)
    rw [← e] at ih
    unfold Seals at hu
    generalize sealed names b (rd_T25 xs i) = u at hu ih
    obtain ⟨u0, u1, u2, u3, u4⟩ := u
    have key : Ev (fun k => if ((xs.take i).map (sealed names b)).length < 1759218604441 then (subst_Seal.l0 k names b xs (xs.length : Int) (wrap64 ((i : Int) + 1)) a0 a1 a2 a3 ((xs.take i).map (sealed names b) ++ [(⟨u0, u1, u2, u3, u4⟩ : Ty)])) else none) (a0, a1, a2, a3, xs.map (sealed names b)) := by
      refine Ev.pos (by omega) ?_
      rw [wrap_ok (show -9223372036854775808 ≤ (i : Int) + 1 by omega) (by omega)]
      exact ih
    exact Ev.step (fun _ => rfl) (Ev.pos (by omega) (Ev.pos (by omega) (Ev.pos (by omega) (Ev.bind hu key))))
theorem seal_told (names : List ByteArray) (b : Int) (hn : names.length ≤ 140737488351232) (hb : ¬ b < 0) (hm : ¬ b > wrap64 (1073741824 - (names.length : Int))) : ∀ (n : Nat) (t : Ty), SizeOf.sizeOf t < n → Okt t → Seals names b t (sealed names b t)
  | 0, _, h, _ => absurd h (Nat.not_lt_zero _)
  | n + 1, t, h, ho => by
    have hix := index_told names t.f2 hn
    have hout := seal_l0 names b t.f4 ho.l80 (fun y hy => seal_told names b hn hb hm n y (by have := size_args t y hy; omega) (ho.all y hy)) t.f0 t.f1 t.f2 t.f3 t.f4.length 0 (by omega)
    have j1f : Ev (fun k => subst_Seal.j1 k names b (pix names t.f2) false t.f0 t.f1 t.f2 t.f3 t.f4) (t.f0, t.f1, t.f2, t.f3, t.f4.map (sealed names b)) :=
      Ev.step (f := fun k => subst_Seal.l0 k names b t.f4 (t.f4.length : Int) 0 t.f0 t.f1 t.f2 t.f3 ([] : List Ty)) (fun _ => rfl) hout
    have j1t : Ev (fun k => subst_Seal.j1 k names b (pix names t.f2) true t.f0 t.f1 t.f2 t.f3 t.f4) (9, wrap64 (b + pix names t.f2), (⟨#[]⟩ : ByteArray), ([] : List ByteArray), ([] : List Ty)) :=
      Ev.step (f := fun _ => some (9, wrap64 (b + pix names t.f2), (⟨#[]⟩ : ByteArray), ([] : List ByteArray), ([] : List Ty))) (fun _ => rfl) (Ev.rets rfl)
    have st : ∀ r, Ev (fun k => if t.f0 = 6 then subst_Seal.j1 k names b (pix names t.f2) (decide (pix names t.f2 ≥ 0)) t.f0 t.f1 t.f2 t.f3 t.f4 else subst_Seal.j1 k names b (pix names t.f2) false t.f0 t.f1 t.f2 t.f3 t.f4) r → Ev (fun k => subst_Seal.f k t.f0 t.f1 t.f2 t.f3 t.f4 names b) r := fun r hr =>
      Ev.step (fun _ => rfl) (Ev.neg hb (by
        rw [decide_eq_false hm]
        exact Ev.step (f := fun k => (slices_Index_string_string.f k names t.f2).bind fun t123 => if t.f0 = 6 then subst_Seal.j1 k names b t123 (decide (t123 ≥ 0)) t.f0 t.f1 t.f2 t.f3 t.f4 else subst_Seal.j1 k names b t123 false t.f0 t.f1 t.f2 t.f3 t.f4) (fun _ => rfl) (Ev.bind hix hr)))
    unfold Seals
    rw [sealed_eq, sealedAll_map]
    by_cases h6 : t.f0 = 6
    · by_cases hi : pix names t.f2 ≥ 0
      · rw [if_pos ⟨h6, hi⟩]
        exact st _ (Ev.pos h6 (by rw [decide_eq_true hi]; exact j1t))
      · rw [if_neg (fun h => hi h.2)]
        exact st _ (Ev.pos h6 (by rw [decide_eq_false hi]; exact j1f))
    · rw [if_neg (fun h => h6 h.1)]
      exact st _ (Ev.neg h6 j1f)
theorem sealO_told (names : List ByteArray) (b : Int) (hn : names.length ≤ 140737488351232) {t : Ty} (o : Okt t) : ∃ k, subst_Seal.f k t.f0 t.f1 t.f2 t.f3 t.f4 names b = some ((sealO names b t).f0, (sealO names b t).f1, (sealO names b t).f2, (sealO names b t).f3, (sealO names b t).f4) := by
  have j0t : Ev (fun k => subst_Seal.j0 k names b true t.f0 t.f1 t.f2 t.f3 t.f4) (t.f0, t.f1, t.f2, t.f3, t.f4) :=
    Ev.step (f := fun _ => some (t.f0, t.f1, t.f2, t.f3, t.f4)) (fun _ => rfl) (Ev.rets rfl)
  have hw : wrap64 (1073741824 - (names.length : Int)) = 1073741824 - (names.length : Int) := wrap_ok (by omega) (by omega)
  have : Seals names b t (sealO names b t) := by
    unfold sealO
    by_cases hb : b < 0
    · rw [sealable_no (.inl hb), if_neg (by decide)]
      exact Ev.step (fun _ => rfl) (Ev.pos hb j0t)
    · by_cases hm : b > wrap64 (1073741824 - (names.length : Int))
      · rw [sealable_no (.inr (by rw [hw] at hm; exact hm)), if_neg (by decide)]
        exact Ev.step (fun _ => rfl) (Ev.neg hb (by rw [decide_eq_true hm]; exact j0t))
      · rw [sealable_yes hb (by rw [hw] at hm; exact hm), if_pos rfl]
        exact seal_told names b hn hb hm _ t (Nat.lt_succ_self _) o
  exact Ev.rounds this
/-! ### The contracts -/
theorem much_c {x : Ty} (o : Okt x) : ∃ r : Int, ∀ {A3 A4 : Option Addr} {c3 c4 : Nat} {w : World}, RT w x A3 c3 A4 c4 →
    Calls Try.prog 14 #[tv x A3 c3 A4 c4] w fun e w' => e = .returned (.int .i64 r) ∧ Below w.heap.size w w' := by
  obtain ⟨k, r, hr⟩ := told o
  exact ⟨r, fun h => (limbecklaw04_Much.calls k x.f0 x.f1 x.f2 _ _ x.f3 _ _ x.f4 r _ h.2.1 h.1 h.2.2.2 h.2.2.1 hr).mono fun e w' k => k⟩
theorem few_c {m : List Bi} (hm : m.length ≤ 140737488351232) (ho : ∀ b, b ∈ m → Okt b.f1) : ∃ r : Int, (m.length ≤ 20 ∨ r = 5000) ∧ ∀ {A : Option Addr} {c : Nat} {w : World}, RB w A c m →
    Calls Try.prog 24 #[.slice A m.length c] w fun e w' => e = .returned (.int .i64 r) ∧ Below w.heap.size w w' := by
  obtain ⟨k, r, hr, h⟩ := few_told m hm ho
  exact ⟨r, h, fun h => (limbecklaw07_Few.calls k _ _ m r _ h.1 h.2 hr).mono fun e w' k => k⟩
theorem types_c {m : List Bi} (hm : m.length * 80 ≤ 140737488351232) {A : Option Addr} {c : Nat} {w : World} (h : RB w A c m) :
    Calls Try.prog 27 #[.slice A m.length c] w fun e w' => ∃ B d, e = .returned (.slice B (m.map (·.f1)).length d) ∧ RL w' B d (m.map (·.f1)) ∧ Below w.heap.size w w' := by
  obtain ⟨k, hk⟩ := types_told m hm
  refine (limbecklaw07_types.calls k (fun k => k < w.heap.size) A c m _ w (Kd.V_mk h.2 (Kd.C_F heapBi h.1)) hk).mono ?_
  rintro e w' ⟨v, rfl, hN, hb⟩
  obtain ⟨B, d, rfl⟩ := Kd.N_slice hN
  exact ⟨B, d, rfl, ⟨(Kd.N_reads' hN).2.2, (Kd.N_reads' hN).2.1⟩, hb⟩
theorem rsame_c {x : Ty} (o : Okt x) (y : Ty) {A3 A4 B3 B4 : Option Addr} {c3 c4 d3 d4 : Nat} {w : World} (h : RT w x A3 c3 A4 c4) (k : RT w y B3 d3 B4 d4) :
    Calls Try.prog 22 #[tv x A3 c3 A4 c4, tv y B3 d3 B4 d4] w fun e w' => e = .returned (.bool (same x y)) ∧ Below w.heap.size w w' := by
  obtain ⟨n, hn⟩ := same_told o y
  exact (limbeckref04_Same.calls n x.f0 x.f1 x.f2 A3 c3 x.f3 A4 c4 x.f4 y.f0 y.f1 y.f2 B3 d3 y.f3 B4 d4 y.f4 _ w h.2.1 h.1 h.2.2.2 h.2.2.1 k.2.1 k.1 k.2.2.2 k.2.2.1 hn).mono fun e w' k => k
theorem has_c (c : Int) {x : Ty} (o : Okt x) {A3 A4 : Option Addr} {c3 c4 : Nat} {w : World} (h : RT w x A3 c3 A4 c4) :
    Calls Try.prog 32 #[tv x A3 c3 A4 c4, .int .i64 c] w fun e w' => e = .returned (.bool (has c x)) ∧ Below w.heap.size w w' := by
  obtain ⟨k, hk⟩ := has_told c o
  exact (limbeckref04_Has.calls k x.f0 x.f1 x.f2 A3 c3 x.f3 A4 c4 x.f4 c _ w h.2.1 h.1 h.2.2.2 h.2.2.1 hk).mono fun e w' k => k
/-- A type comes. -/
def TyOut (w : World) (u : Ty) (e : Ending) (w' : World) : Prop := ∃ A3 c3 A4 c4, e = .returned (tv u A3 c3 A4 c4) ∧ RT w' u A3 c3 A4 c4 ∧ Below w.heap.size w w'
theorem seal_c (names : List ByteArray) (b : Int) (hn : names.length ≤ 140737488351232) {t : Ty} (o : Okt t) {A A3 A4 : Option Addr} {c c3 c4 : Nat} {w : World} (hN : RN w A c names) (h : RT w t A3 c3 A4 c4) :
    Calls Try.prog 29 #[tv t A3 c3 A4 c4, .slice A names.length c, .int .i64 b] w (TyOut w (sealO names b t)) := by
  obtain ⟨k, hk⟩ := sealO_told names b hn o
  have hf := h.ft
  refine (subst_Seal.calls k t.f0 t.f1 t.f2 _ A3 c3 t.f3 _ A4 c4 t.f4 A c names b _ _ _ _ _ w (Kd.V_mk hf.1 hf.2.1) (Kd.V_mk hf.2.2.1 hf.2.2.2) hN.1 hN.2 hk).mono ?_
  rintro e w' ⟨v3, v4, rfl, ⟨B3, d3, rfl, h3, f3⟩, ⟨B4, d4, rfl, h4, f4⟩, hb⟩
  exact ⟨B3, d3, B4, d4, rfl, ⟨h3, Kd.F_now f3, h4, Kd.F_now f4⟩, hb⟩
/-- A type comes, or none. -/
def POut (w : World) (o : Option Ty) (e : Ending) (w' : World) : Prop := ∃ A3 c3 A4 c4, e = .returned (.tuple #[tv (o.getD z25) A3 c3 A4 c4, .bool o.isSome]) ∧ RT w' (o.getD z25) A3 c3 A4 c4 ∧ Below w.heap.size w w'
theorem TOut.p {w w' : World} {ok : Nat → Prop} {o : Option Ty} {e : Ending} (h : TOut w ok o e w') : POut w o e w' := by
  cases o with
  | none => exact ⟨none, 0, none, 0, h.2, RT.zero _, h.1⟩
  | some u => obtain ⟨hb, A3, c3, A4, c4, he, hf⟩ := h; exact ⟨A3, c3, A4, c4, he, hf.rt, hb⟩
theorem put_t {m : List Bi} (hm : m.length * 16 ≤ 140737488351232) (hs : ∀ b, b ∈ m → Sm b.f1) {t : Ty} (hsm : Sm t) {M A3 A4 : Option Addr} {cM c3 c4 : Nat} {w : World} (hC : RB w M cM m) (ht : RT w t A3 c3 A4 c4) :
    Calls Try.prog 31 #[tv t A3 c3 A4 c4, .slice M m.length cM] w (POut w (putO m t)) :=
  (put_c m hm hs (ok := fun k => k < w.heap.size) (fun _ h => h) (Kd.C_F heapBi hC.1) hC.2 t hsm ht.ft).mono fun e w' h => h.p
theorem open_t (a : Int) {l : List Ty} (hl : l.length * 80 ≤ 140737488351232) (hs : ∀ y, y ∈ l → Sm y) {t : Ty} (hsn : Sn t) {L A3 A4 : Option Addr} {cL c3 c4 : Nat} {w : World} (hC : RL w L cL l) (ht : RT w t A3 c3 A4 c4) :
    Calls Try.prog 26 #[tv t A3 c3 A4 c4, .int .i64 a, .slice L l.length cL] w (POut w (openO a l t)) :=
  (open_c a l hl hs (ok := fun k => k < w.heap.size) (fun _ h => h) (Kd.C_F heapTy hC.1) hC.2 t hsn ht.ft).mono fun e w' h => h.p
/-! ### What comes is as long as there may be -/
mutual
theorem plain_okt (f : Ty → Option Ty) (hf : ∀ x u, f x = some u → Okt u) : ∀ (t : Ty), Okt t → Okt (plain f t)
  | ⟨a0, a1, a2, a3, a4⟩, h => by
    rw [plain_eq]
    cases hq : f ⟨a0, a1, a2, a3, a4⟩ with
    | some u => exact hf _ u hq
    | none => exact .mk _ h.l3 (by have := h.l80; rw [plainAll_map]; simpa using this) (plainAll_okt f hf a4 h.all)
theorem plainAll_okt (f : Ty → Option Ty) (hf : ∀ x u, f x = some u → Okt u) : ∀ (l : List Ty), (∀ y, y ∈ l → Okt y) → ∀ y, y ∈ plainAll f l → Okt y
  | [], _, y, hy => by rw [plainAll_nil] at hy; cases hy
  | a :: l, h, y, hy => by
    rw [plainAll_cons] at hy
    rcases List.mem_cons.1 hy with rfl | hy
    · exact plain_okt f hf a (h a (List.mem_cons_self ..))
    · exact plainAll_okt f hf l (fun z hz => h z (List.mem_cons_of_mem _ hz)) y hy
end
theorem turnPut_okt {m : List Bi} (hs : ∀ b, b ∈ m → Okt b.f1) (x u : Ty) (h : turnPut m x = some u) : Okt u := by
  unfold turnPut at h
  split at h
  · rename_i hc
    have hlt := bix_lt m x.f2
    have hi : (bix m x.f2).toNat < m.length := by omega
    rw [List.getD_eq_getElem?_getD, List.getElem?_eq_getElem hi] at h
    injection h with h
    subst h
    exact hs _ (List.getElem_mem hi)
  · cases h
theorem putO_okt {m : List Bi} (hs : ∀ b, b ∈ m → Okt b.f1) {t u : Ty} (o : Okt t) (h : putO m t = some u) : Okt u := by
  rw [(done_some h).2.2]; exact plain_okt _ (turnPut_okt hs) t o
theorem okt_zero : Okt z25 := .mk _ (Nat.zero_le _) (Nat.zero_le _) (fun y hy => by cases hy)
theorem putO_okt' {m : List Bi} (hs : ∀ b, b ∈ m → Okt b.f1) {t : Ty} (o : Okt t) : Okt ((putO m t).getD z25) := by
  cases h : putO m t with
  | none => exact okt_zero
  | some u => exact putO_okt hs o h
mutual
theorem sealed_sn (l : List ByteArray) (b : Int) : ∀ (t : Ty), Sn t → Sn (sealed l b t)
  | ⟨a0, a1, a2, a3, a4⟩, h => by
    rw [sealed_eq]
    split
    · exact .mk _ (Nat.zero_le _) (by show -9223372036854775808 ≤ wrap64 _ ∧ wrap64 _ ≤ 9223372036854775807; unfold wrap64; omega) (fun y hy => by cases hy)
    · exact .mk _ (by have := h.len; rw [sealedAll_map]; simpa using this) h.rng (sealedAll_sn l b a4 h.all)
theorem sealedAll_sn (l : List ByteArray) (b : Int) : ∀ (m : List Ty), (∀ y, y ∈ m → Sn y) → ∀ y, y ∈ sealedAll l b m → Sn y
  | [], _, y, hy => by rw [sealedAll_nil] at hy; cases hy
  | a :: m, h, y, hy => by
    rw [sealedAll_cons] at hy
    rcases List.mem_cons.1 hy with rfl | hy
    · exact sealed_sn l b a (h a (List.mem_cons_self ..))
    · exact sealedAll_sn l b m (fun z hz => h z (List.mem_cons_of_mem _ hz)) y hy
end
theorem sealO_sn (l : List ByteArray) (b : Int) {t : Ty} (h : Sn t) : Sn (sealO l b t) := by unfold sealO; split; exact sealed_sn l b t h; exact h
end Go.Proofs.Ytnfnhjhnfdkinaa.PSubstPuts

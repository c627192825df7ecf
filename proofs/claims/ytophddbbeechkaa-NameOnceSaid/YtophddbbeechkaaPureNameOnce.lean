/-
  NameOnce: a list that rises has each name once, and rises still without one of them, which then is not in it. No condition beyond the row's own.
-/
import Derived.Test.YtophddbbeechkaaSNameOnce
namespace Go.Proofs.Ytophddbbeechkaa.Pure
open Go.RowKit Go.Proofs.Ytophddbbeechkaa.PNameOnce Go.Proofs.YtophddbbeechkaaW Go.Proofs.YtophddbbeechkaaW.PrintWords Go.Proofs.YtophddbbeechkaaW.PrintLast Go.Proofs.YtophddbbeechkaaW.PrintMore
/-! ### Ev: more ways -/
theorem Ev.pos {α : Type} {c : Prop} [Decidable c] {f g : Nat → Option α} {r : α} (h : c) (k : Ev f r) : Ev (fun n => if c then f n else g n) r := by
  obtain ⟨K, hK⟩ := k
  exact ⟨K, fun n hn => (if_pos h).trans (hK n hn)⟩
theorem Ev.neg {α : Type} {c : Prop} [Decidable c] {f g : Nat → Option α} {r : α} (h : ¬ c) (k : Ev g r) : Ev (fun n => if c then f n else g n) r := by
  obtain ⟨K, hK⟩ := k
  exact ⟨K, fun n hn => (if_neg h).trans (hK n hn)⟩
theorem Ev.bindc {α β : Type} {x : Option α} {f : Nat → α → Option β} {a : α} {r : β} (h : x = some a) (k : Ev (fun n => f n a) r) : Ev (fun n => x.bind (f n)) r := by
  subst h; exact k
theorem Ev.ret {α : Type} {x : Option α} {r : α} (h : x = some r) : Ev (fun _ => x) r := ⟨0, fun _ _ => h⟩
theorem Ev.rets {α : Type} {x r : α} (h : x = r) : Ev (fun _ => some x) r := ⟨0, fun _ _ => by rw [h]⟩
theorem Ev.to {α : Type} {g : Nat → Option α} {r r' : α} (h : Ev g r) (e : r = r') : Ev g r' := e ▸ h
theorem wrap_in {i : Int} (h0 : -9223372036854775808 ≤ i) (h1 : i ≤ 9223372036854775807) : wrap64 i = i := by unfold wrap64; omega

/-! ### name: what the program and the reference compute -/
def keptW : List (List UInt8) := [[108, 101, 116], [105, 110], [105, 102], [116, 104, 101, 110], [101, 108, 115, 101], [102, 110], [99, 97, 108, 108], [100, 101, 102], [116, 114, 117, 101], [102, 97, 108, 115, 101]]
def typeW : List (List UInt8) := [[73, 110, 116], [66, 111, 111, 108], [83, 116, 114, 105, 110, 103], [84, 111, 112]]
def kindOf (a : ByteArray) : Int :=
  if a.toList ∈ keptW then 3 else if a.toList ∈ typeW then 4 else if (a.size : Int) > 8 then 0 else shapeFrom a a.size 0 0
theorem name_kind (a : ByteArray) : Ev (fun k => name_Kind.f k a) (kindOf a) := by
  refine ⟨3, fun k hk => ?_⟩
  obtain ⟨k, rfl⟩ : ∃ m, k = m + 3 := ⟨k - 3, by omega⟩
  have hs : ∃ sh, name_shape.f a = some sh ∧ sh = (if (a.size : Int) > 8 then 0 else shapeFrom a a.size 0 0) := by
    unfold name_shape.f
    by_cases h : (a.size : Int) > 8
    · rw [if_pos h, if_pos h]; exact ⟨_, rfl, rfl⟩
    · rw [if_neg h, if_neg h]; exact ⟨_, rfl, rfl⟩
  obtain ⟨sh, h1, h2⟩ := hs
  simp only [name_Kind.f, h1, Option.bind_some, kindOf, ← h2]
  clear h1 h2
  simp only [name_Kind.j0, name_Kind.j1]
  by_cases h : a.toList ∈ keptW
  · rw [if_pos h]
    unfold keptW at h
    simp only [List.mem_cons, List.not_mem_nil, or_false] at h
    rcases h with h | h | h | h | h | h | h | h | h | h <;> rw [h] <;> rfl
  · rw [if_neg h]
    by_cases g : a.toList ∈ typeW
    · rw [if_pos g]
      unfold typeW at g
      simp only [List.mem_cons, List.not_mem_nil, or_false] at g
      rcases g with h | h | h | h <;> rw [h] <;> rfl
    · rw [if_neg g]
      unfold keptW at h
      unfold typeW at g
      simp only [List.mem_cons, List.not_mem_nil, or_false, not_or] at h g
      obtain ⟨h1, h2, h3, h4, h5, h6, h7, h8, h9, h10⟩ := h
      obtain ⟨g1, g2, g3, g4⟩ := g
      simp only [h1, h2, h3, h4, h6, h7, h8, h9, g1, g2, g3, g4, if_false, beq_eq_false_iff_ne.mpr h5, beq_eq_false_iff_ne.mpr h10, Bool.false_eq_true]
theorem name_fine (a : ByteArray) : Ev (fun k => name_Fine.f k a) (kindOf a == 1) := by
  unfold name_Fine.f
  exact Ev.bind (name_kind a) (Ev.rets rfl)
theorem name_var (a : ByteArray) : Ev (fun k => name_Var.f k a) (kindOf a == 2) := by
  unfold name_Var.f
  exact Ev.bind (name_kind a) (Ev.rets rfl)
/-- Is a list's element from place i on a? -/
theorem rdOf_get (xs : List ByteArray) (i : Nat) (h : i < xs.length) : rdOf ByteArray.empty xs (i : Int) = xs[i] := by
  unfold rdOf
  rw [Int.toNat_natCast, List.getD_eq_getElem?_getD, List.getElem?_eq_getElem h]; rfl

theorem index_nil (a : ByteArray) : Ev (fun k => slices_Index_string_string.f k [] a) (-1) := by
  unfold slices_Index_string_string.f
  exact Ev.step (fun _ => rfl) (Ev.neg (by decide) (Ev.rets rfl))
theorem awake_true : Ev (fun k => limbecklaw01_awake.f k) true := by
  unfold limbecklaw01_awake.f
  refine Ev.bind (name_kind _) (Ev.pos (by decide +kernel) ?_)
  refine Ev.bind (name_kind _) (Ev.pos (by decide +kernel) ?_)
  refine Ev.bind (name_kind _) (Ev.pos (by decide +kernel) ?_)
  refine Ev.bind (name_kind _) (Ev.pos (by decide +kernel) ?_)
  refine Ev.bind (name_fine _) (Ev.pos (by decide +kernel) ?_)
  refine Ev.bind (name_var _) (Ev.pos (by decide +kernel) ?_)
  unfold name_Fresh.f slices_Contains_string_string.f
  exact Ev.bind (Ev.bind (Ev.bind (index_nil _) (Ev.rets rfl)) (Ev.rets rfl)) (Ev.rets rfl)

/-! ### lists of texts: rising, places -/
def risesFrom (l : List ByteArray) : Nat → Nat → Bool
  | 0, _ => true
  | d + 1, i => if (kindOf (rdOf ByteArray.empty l i) == 1) = true then (if 0 < i then (if Op.bytesLess (rdOf ByteArray.empty l (i - 1 : Nat)).toList (rdOf ByteArray.empty l i).toList = true then risesFrom l d (i + 1) else false) else risesFrom l d (i + 1)) else false
theorem name_rising_l (l : List ByteArray) (hl : l.length ≤ 140737488351232) (d i : Nat) (hd : d + i = l.length) :
    Ev (fun k => name_Rising.l0 k l l l.length i) (risesFrom l d i) := by
  induction d generalizing i with
  | zero => exact Ev.step (fun _ => rfl) (Ev.neg (by omega) (Ev.rets rfl))
  | succ d ih =>
    unfold risesFrom
    refine Ev.step (fun _ => rfl) (Ev.pos (by omega) (Ev.pos (by omega) (Ev.pos (by omega) (Ev.bind (name_fine _) ?_))))
    rw [wrap_in (show -9223372036854775808 ≤ (i : Int) + 1 by omega) (by omega), wrap_in (show -9223372036854775808 ≤ (i : Int) - 1 by omega) (by omega)]
    by_cases h1 : (kindOf (rdOf ByteArray.empty l i) == 1) = true
    · rw [if_pos h1]
      refine Ev.pos h1 ?_
      by_cases h2 : 0 < i
      · rw [if_pos h2]
        refine Ev.pos (by omega) (Ev.pos (by omega) (Ev.pos (by omega) ?_))
        rw [show (i : Int) - 1 = ((i - 1 : Nat) : Int) by omega]
        by_cases h3 : Op.bytesLess (rdOf ByteArray.empty l (i - 1 : Nat)).toList (rdOf ByteArray.empty l i).toList = true
        · rw [if_pos h3]; exact Ev.pos h3 (ih (i + 1) (by omega))
        · rw [if_neg h3]; exact Ev.neg h3 (Ev.rets rfl)
      · rw [if_neg h2]; exact Ev.neg (by omega) (ih (i + 1) (by omega))
    · rw [if_neg h1]; exact Ev.neg h1 (Ev.rets rfl)
theorem name_rising (l : List ByteArray) (hl : l.length ≤ 140737488351232) : Ev (fun k => name_Rising.f k l) (risesFrom l l.length 0) := by
  unfold name_Rising.f
  exact name_rising_l l hl l.length 0 (by omega)
def placeFrom (l : List ByteArray) (a : ByteArray) : Nat → Nat → Int
  | 0, _ => -1
  | d + 1, i => if (rdOf ByteArray.empty l i).toList = a.toList then i else placeFrom l a d (i + 1)
theorem index_l (l : List ByteArray) (hl : l.length ≤ 140737488351232) (a : ByteArray) (d i : Nat) (hd : d + i = l.length) :
    Ev (fun k => slices_Index_string_string.l0 k l a l.length i) (placeFrom l a d i) := by
  induction d generalizing i with
  | zero => exact Ev.step (fun _ => rfl) (Ev.neg (by omega) (Ev.rets rfl))
  | succ d ih =>
    unfold placeFrom
    refine Ev.step (fun _ => rfl) (Ev.pos (by omega) (Ev.pos (by omega) (Ev.pos (by omega) ?_)))
    rw [wrap_in (by omega) (by omega)]
    by_cases h : (rdOf ByteArray.empty l i).toList = a.toList
    · rw [if_pos h]; exact Ev.pos h.symm (Ev.rets rfl)
    · rw [if_neg h]; exact Ev.neg (fun e => h e.symm) (ih (i + 1) (by omega))
theorem name_fresh (l : List ByteArray) (hl : l.length ≤ 140737488351232) (a : ByteArray) : Ev (fun k => name_Fresh.f k l a) (decide (placeFrom l a l.length 0 < 0)) := by
  unfold name_Fresh.f slices_Contains_string_string.f slices_Index_string_string.f
  refine Ev.bind (Ev.bind (index_l l hl a l.length 0 (by omega)) (Ev.rets rfl)) (Ev.rets ?_)
  by_cases h : placeFrom l a l.length 0 < 0
  · rw [decide_eq_true h, decide_eq_false (by omega)]; rfl
  · rw [decide_eq_false h, decide_eq_true (by omega)]; rfl

/-! each once -/
theorem bytesLess_irrefl : ∀ (a : List UInt8), Op.bytesLess a a = false
  | [] => rfl
  | x :: a => by
    unfold Op.bytesLess
    rw [bytesLess_irrefl a]
    simp
theorem bytesLess_trans : ∀ (a b c : List UInt8), Op.bytesLess a b = true → Op.bytesLess b c = true → Op.bytesLess a c = true
  | _, [], _, h, _ => by simp [Op.bytesLess] at h
  | _, _ :: _, [], _, h => by simp [Op.bytesLess] at h
  | [], _ :: _, _ :: _, _, _ => rfl
  | x :: a, y :: b, z :: c, h1, h2 => by
    unfold Op.bytesLess at h1 h2 ⊢
    simp only [Bool.or_eq_true, Bool.and_eq_true, decide_eq_true_iff, beq_iff_eq] at h1 h2 ⊢
    rcases h1 with h1 | ⟨rfl, h1⟩
    · rcases h2 with h2 | ⟨rfl, h2⟩
      · exact .inl (UInt8.lt_trans h1 h2)
      · exact .inl h1
    · rcases h2 with h2 | ⟨rfl, h2⟩
      · exact .inl h2
      · exact .inr ⟨rfl, bytesLess_trans a b c h1 h2⟩
theorem rises_iff (l : List ByteArray) (d i : Nat) (hd : d + i = l.length) :
    risesFrom l d i = true ↔ ∀ j, i ≤ j → j < l.length → kindOf (rdOf ByteArray.empty l j) = 1 ∧ (0 < j → Op.bytesLess (rdOf ByteArray.empty l (j - 1 : Nat)).toList (rdOf ByteArray.empty l j).toList = true) := by
  induction d generalizing i with
  | zero => exact ⟨fun _ j h1 h2 => by omega, fun _ => rfl⟩
  | succ d ih =>
    unfold risesFrom
    have ih := ih (i + 1) (by omega)
    constructor
    · intro h j h1 h2
      by_cases k1 : (kindOf (rdOf ByteArray.empty l i) == 1) = true
      · rw [if_pos k1] at h
        by_cases k2 : 0 < i
        · rw [if_pos k2] at h
          by_cases k3 : Op.bytesLess (rdOf ByteArray.empty l (i - 1 : Nat)).toList (rdOf ByteArray.empty l i).toList = true
          · rw [if_pos k3] at h
            rcases Nat.eq_or_lt_of_le h1 with rfl | h1
            · exact ⟨by simpa using k1, fun _ => k3⟩
            · exact ih.1 h j h1 h2
          · rw [if_neg k3] at h; cases h
        · rw [if_neg k2] at h
          rcases Nat.eq_or_lt_of_le h1 with rfl | h1
          · exact ⟨by simpa using k1, fun hp => absurd hp k2⟩
          · exact ih.1 h j h1 h2
      · rw [if_neg k1] at h; cases h
    · intro h
      have h0 := h i (Nat.le_refl _) (by omega)
      have hr := ih.2 (fun j h1 h2 => h j (by omega) h2)
      rw [if_pos (by simp [h0.1])]
      by_cases k2 : 0 < i
      · rw [if_pos k2, if_pos (h0.2 k2)]; exact hr
      · rw [if_neg k2]; exact hr
/-- What rises: names, each less than each later one. -/
def Rises (l : List ByteArray) : Prop := (∀ x, x ∈ l → kindOf x = 1) ∧ l.Pairwise fun a b => Op.bytesLess a.toList b.toList = true
theorem rises_of (l : List ByteArray) (h : risesFrom l l.length 0 = true) : Rises l := by
  rw [rises_iff l l.length 0 (by omega)] at h
  refine ⟨fun x hx => ?_, ?_⟩
  · obtain ⟨j, hj, rfl⟩ := List.getElem_of_mem hx
    have := (h j (Nat.zero_le _) hj).1
    rwa [rdOf_get l j hj] at this
  · rw [List.pairwise_iff_getElem]
    intro i j hi hj hij
    generalize hd : j - i = d
    induction d generalizing j with
    | zero => omega
    | succ d ih =>
      have h1 := (h j (Nat.zero_le _) hj).2 (by omega)
      rw [rdOf_get l j hj, rdOf_get l (j - 1) (by omega)] at h1
      by_cases e : i = j - 1
      · subst e; exact h1
      · exact bytesLess_trans _ _ _ (ih (j - 1) (by omega) (by omega) (by omega)) h1
theorem of_rises (l : List ByteArray) (h : Rises l) : risesFrom l l.length 0 = true := by
  rw [rises_iff l l.length 0 (by omega)]
  intro j _ hj
  rw [rdOf_get l j hj]
  refine ⟨h.1 _ (List.getElem_mem hj), fun h0 => ?_⟩
  rw [rdOf_get l (j - 1) (by omega)]
  exact (List.pairwise_iff_getElem.1 h.2) (j - 1) j (by omega) hj (by omega)
theorem place_none (l : List ByteArray) (a : ByteArray) (h : ∀ x, x ∈ l → x.toList ≠ a.toList) (d i : Nat) (hd : d + i = l.length) : placeFrom l a d i < 0 := by
  induction d generalizing i with
  | zero => exact Int.negSucc_lt_zero 0
  | succ d ih =>
    unfold placeFrom
    rw [rdOf_get l i (by omega), if_neg (h _ (List.getElem_mem _))]
    exact ih (i + 1) (by omega)
theorem place_some (l : List ByteArray) (a : ByteArray) (j : Nat) (hj : j < l.length) (h : l[j].toList = a.toList) (d i : Nat) (hd : d + i = l.length) (hi : i ≤ j) : 0 ≤ placeFrom l a d i := by
  induction d generalizing i with
  | zero => omega
  | succ d ih =>
    unfold placeFrom
    split
    · omega
    · rename_i hne
      refine ih (i + 1) (by omega) ?_
      rcases Nat.eq_or_lt_of_le hi with rfl | hi
      · rw [rdOf_get l i hj] at hne; exact absurd h hne
      · exact hi
theorem once_j0 (l : List ByteArray) (x : Int) (hl : l.length ≤ 100) (h0 : l ≠ []) (hx : 0 ≤ x ∧ x ≤ 255) (hr : Rises l) (b : Bool) (hb : ¬ b = true) : Ev (fun k => limbecklaw01_NameOnce.j0 k l x b) true := by
  have hlen : 0 < l.length := List.length_pos_iff.2 h0
  obtain ⟨n, rfl⟩ := Int.eq_ofNat_of_zero_le hx.1
  have hi : Int.tmod (wrap64 (n : Int)) (l.length : Int) = ((n % l.length : Nat) : Int) := by
    rw [wrap_in (by omega) (by omega)]; rfl
  have hlt : n % l.length < l.length := Nat.mod_lt _ hlen
  generalize n % l.length = i at hi hlt
  have hsub : (l.take i ++ l.drop (i + 1)).Sublist l := by rw [← List.eraseIdx_eq_take_drop_succ]; exact List.eraseIdx_sublist l i
  have hRr : Rises (l.take i ++ l.drop (i + 1)) := ⟨fun y hy => hr.1 y (hsub.subset hy), hr.2.sublist hsub⟩
  have hpl : placeFrom (l.take i ++ l.drop (i + 1)) l[i] (l.take i ++ l.drop (i + 1)).length 0 < 0 := by
    refine place_none _ _ (fun y hy e => ?_) _ 0 (by omega)
    have hp := hr.2
    have hsp : l = l.take i ++ l[i] :: l.drop (i + 1) := by rw [← List.drop_eq_getElem_cons hlt, List.take_append_drop]
    rw [hsp, List.pairwise_append] at hp
    rcases List.mem_append.1 hy with hy | hy
    · have := hp.2.2 y hy l[i] (List.mem_cons_self)
      rw [e, bytesLess_irrefl] at this; cases this
    · have := (List.pairwise_cons.1 hp.2.1).1 y hy
      rw [e, bytesLess_irrefl] at this; cases this
  have hps : ¬ placeFrom l l[i] l.length 0 < 0 := by
    have := place_some l l[i] i hlt rfl l.length 0 (by omega) (Nat.zero_le _)
    omega
  have e1 : wrap64 ((i : Int) + 1) = ((i + 1 : Nat) : Int) := by rw [wrap_in (by omega) (by omega)]; rfl
  refine Ev.step (fun _ => rfl) (Ev.neg hb (Ev.neg (by omega) (Ev.bindc rfl ?_)))
  rw [hi, e1]
  refine Ev.pos (by omega) (Ev.pos (by omega) (Ev.pos ?_ (Ev.bindc rfl (Ev.pos (by omega) (Ev.pos (by omega) (Ev.pos ?_ (Ev.bindc rfl ?_)))))))
  · simp; omega
  · simp; omega
  have hrest : [] ++ l.take (i : Int).toNat ++ l.drop ((i + 1 : Nat) : Int).toNat = l.take i ++ l.drop (i + 1) := by simp
  rw [hrest]
  have hll : (l.take i ++ l.drop (i + 1)).length ≤ 140737488351232 := by have := hsub.length_le; omega
  refine Ev.bind (name_rising _ hll) ?_
  rw [of_rises _ hRr]
  refine Ev.pos rfl (Ev.pos (by omega) ?_)
  rw [rdOf_get l i hlt]
  refine Ev.bind (name_fresh _ hll _) ?_
  rw [decide_eq_true hpl]
  refine Ev.pos rfl (Ev.bind (name_fresh l (by omega) _) ?_)
  rw [decide_eq_false hps]
  exact Ev.neg (by decide) (Ev.bind awake_true (Ev.rets rfl))
theorem NameOnce : limbecklaw01_NameOnce.Pure := by
  intro l x ⟨hl, ho⟩ hx
  have hx := Rd.u8_bounds hx
  have hl' : l.length ≤ 140737488351232 := by omega
  have hskip : ∀ b, b = true → Ev (fun k => limbecklaw01_NameOnce.j0 k l x b) true := fun b hb => Ev.step (fun _ => rfl) (Ev.pos hb (Ev.bind awake_true (Ev.rets rfl)))
  refine Ev.rounds ?_
  unfold limbecklaw01_NameOnce.f
  by_cases h : (l.length : Int) > 100
  · exact Ev.pos h (hskip _ rfl)
  refine Ev.neg h ?_
  by_cases h0 : (l.length : Int) = 0
  · exact Ev.pos h0 (hskip _ rfl)
  refine Ev.neg h0 (Ev.bind (name_rising l hl') ?_)
  cases hr : risesFrom l l.length 0 with
  | false => exact hskip _ rfl
  | true => exact once_j0 l x (by omega) (fun e => h0 (by rw [e]; rfl)) hx (rises_of l hr) _ (by decide)


end Go.Proofs.Ytophddbbeechkaa.Pure

/-
  NameLists: for every list of texts and every text, name.Rising and name.Fresh answer as the reference does. No condition beyond the row's own.
-/
import Derived.Test.YtophddbbeechkaaSNameLists
namespace Go.Proofs.Ytophddbbeechkaa.Pure
open Go.RowKit Go.Proofs.Ytophddbbeechkaa.PNameLists Go.Proofs.YtophddbbeechkaaW Go.Proofs.YtophddbbeechkaaW.PrintWords Go.Proofs.YtophddbbeechkaaW.PrintLast Go.Proofs.YtophddbbeechkaaW.PrintMore
/-! ### Ev: more ways -/
theorem Ev.pos {α : Type} {c : Prop} [Decidable c] {f g : Nat → Option α} {r : α} (h : c) (k : Ev f r) : Ev (fun n => if c then f n else g n) r := by
  obtain ⟨K, hK⟩ := k
  exact ⟨K, fun n hn => (if_pos h).trans (hK n hn)⟩
theorem Ev.neg {α : Type} {c : Prop} [Decidable c] {f g : Nat → Option α} {r : α} (h : ¬ c) (k : Ev g r) : Ev (fun n => if c then f n else g n) r := by
  obtain ⟨K, hK⟩ := k
  exact ⟨K, fun n hn => (if_neg h).trans (hK n hn)⟩
theorem Ev.bindc {α β : Type} {x : Option α} {f : Nat → α → Option β} {a : α} {r : β} (h : x = some a) (k : Ev (fun n => f n a) r) : Ev (fun n => x.bind (f n)) r := by
  subst h; exact k
theorem Ev.ret {α : Type} {x : Option α} {r : α} (h : x = some r) : Ev (fun _ => x) r := ⟨0, fun _ _ => h⟩
theorem Ev.rets {α : Type} {x r : α} (h : x = r) : Ev (fun _ => some x) r := ⟨0, fun _ _ => by rw [h]⟩
theorem Ev.to {α : Type} {g : Nat → Option α} {r r' : α} (h : Ev g r) (e : r = r') : Ev g r' := e ▸ h
theorem wrap_in {i : Int} (h0 : -9223372036854775808 ≤ i) (h1 : i ≤ 9223372036854775807) : wrap64 i = i := by unfold wrap64; omega

/-! ### name: what the program and the reference compute -/
def keptW : List (List UInt8) := [[108, 101, 116], [105, 110], [105, 102], [116, 104, 101, 110], [101, 108, 115, 101], [102, 110], [99, 97, 108, 108], [100, 101, 102], [116, 114, 117, 101], [102, 97, 108, 115, 101]]
def typeW : List (List UInt8) := [[73, 110, 116], [66, 111, 111, 108], [83, 116, 114, 105, 110, 103], [84, 111, 112]]
def kindOf (a : ByteArray) : Int :=
  if a.toList ∈ keptW then 3 else if a.toList ∈ typeW then 4 else if (a.size : Int) > 8 then 0 else shapeFrom a a.size 0 0
theorem name_kind (a : ByteArray) : Ev (fun k => name_Kind.f k a) (kindOf a) := by
  refine ⟨3, fun k hk => ?_⟩
  obtain ⟨k, rfl⟩ : ∃ m, k = m + 3 := ⟨k - 3, by omega⟩
  have hs : ∃ sh, name_shape.f a = some sh ∧ sh = (if (a.size : Int) > 8 then 0 else shapeFrom a a.size 0 0) := by
    unfold name_shape.f
    by_cases h : (a.size : Int) > 8
    · rw [if_pos h, if_pos h]; exact ⟨_, rfl, rfl⟩
    · rw [if_neg h, if_neg h]; exact ⟨_, rfl, rfl⟩
  obtain ⟨sh, h1, h2⟩ := hs
  simp only [name_Kind.f, h1, Option.bind_some, kindOf, ← h2]
  clear h1 h2
  simp only [name_Kind.j0, name_Kind.j1]
  by_cases h : a.toList ∈ keptW
  · rw [if_pos h]
    unfold keptW at h
    simp only [List.mem_cons, List.not_mem_nil, or_false] at h
    rcases h with h | h | h | h | h | h | h | h | h | h <;> rw [h] <;> rfl
  · rw [if_neg h]
    by_cases g : a.toList ∈ typeW
    · rw [if_pos g]
      unfold typeW at g
      simp only [List.mem_cons, List.not_mem_nil, or_false] at g
      rcases g with h | h | h | h <;> rw [h] <;> rfl
    · rw [if_neg g]
      unfold keptW at h
      unfold typeW at g
      simp only [List.mem_cons, List.not_mem_nil, or_false, not_or] at h g
      obtain ⟨h1, h2, h3, h4, h5, h6, h7, h8, h9, h10⟩ := h
      obtain ⟨g1, g2, g3, g4⟩ := g
      simp only [h1, h2, h3, h4, h6, h7, h8, h9, g1, g2, g3, g4, if_false, beq_eq_false_iff_ne.mpr h5, beq_eq_false_iff_ne.mpr h10, Bool.false_eq_true]
theorem name_fine (a : ByteArray) : Ev (fun k => name_Fine.f k a) (kindOf a == 1) := by
  unfold name_Fine.f
  exact Ev.bind (name_kind a) (Ev.rets rfl)
theorem name_var (a : ByteArray) : Ev (fun k => name_Var.f k a) (kindOf a == 2) := by
  unfold name_Var.f
  exact Ev.bind (name_kind a) (Ev.rets rfl)
/-- Is a list's element from place i on a? -/
theorem rdOf_get (xs : List ByteArray) (i : Nat) (h : i < xs.length) : rdOf ByteArray.empty xs (i : Int) = xs[i] := by
  unfold rdOf
  rw [Int.toNat_natCast, List.getD_eq_getElem?_getD, List.getElem?_eq_getElem h]; rfl
theorem kept_l1 (a : ByteArray) (xs : List ByteArray) (hx : xs.length < 9223372036854775807) (i : Nat) (hi : i ≤ xs.length) :
    Ev (fun k => limbeckref01_Kept.l1 k a xs i) (if a.toList ∈ (xs.drop i).map (·.toList) then 4 else 0) := by
  generalize hd : xs.length - i = d
  induction d generalizing i with
  | zero =>
    have : i = xs.length := by omega
    subst this
    refine Ev.step (fun _ => rfl) (Ev.neg (by omega) (Ev.rets (by simp)))
  | succ d ih =>
    have hlt : i < xs.length := by omega
    have hdr : xs.drop i = xs[i] :: xs.drop (i + 1) := List.drop_eq_getElem_cons hlt
    refine Ev.step (fun _ => rfl) (Ev.pos (by omega) (Ev.pos (by omega) ?_))
    rw [rdOf_get xs i hlt, wrap_in (by omega) (by omega)]
    by_cases e : xs[i].toList = a.toList
    · refine Ev.pos e (Ev.rets ?_)
      have hm : a.toList ∈ (xs.drop i).map (·.toList) := by rw [hdr, List.map_cons, e]; exact List.mem_cons_self
      rw [if_pos hm]
    · refine Ev.neg e (Ev.to (ih (i + 1) (by omega) (by omega)) ?_)
      rw [hdr]
      simp only [List.map_cons, List.mem_cons]
      have : ¬ a.toList = xs[i].toList := fun h => e h.symm
      simp [this]
theorem kept_l0 (a : ByteArray) (xs : List ByteArray) (hx : xs.length < 9223372036854775807) (i : Nat) (hi : i ≤ xs.length) :
    Ev (fun k => limbeckref01_Kept.l0 k a xs i) (if a.toList ∈ (xs.drop i).map (·.toList) then 3 else if a.toList ∈ typeW then 4 else 0) := by
  generalize hd : xs.length - i = d
  induction d generalizing i with
  | zero =>
    have : i = xs.length := by omega
    subst this
    refine Ev.step (fun _ => rfl) (Ev.neg (by omega) ?_)
    refine Ev.to (kept_l1 a [(⟨#[73, 110, 116]⟩ : ByteArray), (⟨#[66, 111, 111, 108]⟩ : ByteArray), (⟨#[83, 116, 114, 105, 110, 103]⟩ : ByteArray), (⟨#[84, 111, 112]⟩ : ByteArray)] (by decide) 0 (by decide)) ?_
    rw [if_neg (show ¬ a.toList ∈ (xs.drop xs.length).map (·.toList) by simp), show (List.drop 0 [(⟨#[73, 110, 116]⟩ : ByteArray), (⟨#[66, 111, 111, 108]⟩ : ByteArray), (⟨#[83, 116, 114, 105, 110, 103]⟩ : ByteArray), (⟨#[84, 111, 112]⟩ : ByteArray)]).map (·.toList) = typeW by decide +kernel]
  | succ d ih =>
    have hlt : i < xs.length := by omega
    have hdr : xs.drop i = xs[i] :: xs.drop (i + 1) := List.drop_eq_getElem_cons hlt
    refine Ev.step (fun _ => rfl) (Ev.pos (by omega) (Ev.pos (by omega) ?_))
    rw [rdOf_get xs i hlt, wrap_in (by omega) (by omega)]
    by_cases e : xs[i].toList = a.toList
    · refine Ev.pos e (Ev.rets ?_)
      have hm : a.toList ∈ (xs.drop i).map (·.toList) := by rw [hdr, List.map_cons, e]; exact List.mem_cons_self
      rw [if_pos hm]
    · refine Ev.neg e (Ev.to (ih (i + 1) (by omega) (by omega)) ?_)
      rw [hdr]
      simp only [List.map_cons, List.mem_cons]
      have : ¬ a.toList = xs[i].toList := fun h => e h.symm
      simp [this]
theorem kept_f (a : ByteArray) : Ev (fun k => limbeckref01_Kept.f k a) (if a.toList ∈ keptW then 3 else if a.toList ∈ typeW then 4 else 0) := by
  unfold limbeckref01_Kept.f
  refine Ev.to (kept_l0 a [(⟨#[108, 101, 116]⟩ : ByteArray), (⟨#[105, 110]⟩ : ByteArray), (⟨#[105, 102]⟩ : ByteArray), (⟨#[116, 104, 101, 110]⟩ : ByteArray), (⟨#[101, 108, 115, 101]⟩ : ByteArray), (⟨#[102, 110]⟩ : ByteArray), (⟨#[99, 97, 108, 108]⟩ : ByteArray), (⟨#[100, 101, 102]⟩ : ByteArray), (⟨#[116, 114, 117, 101]⟩ : ByteArray), (⟨#[102, 97, 108, 115, 101]⟩ : ByteArray)] (by decide) 0 (by decide)) ?_
  rw [show (List.drop 0 [(⟨#[108, 101, 116]⟩ : ByteArray), (⟨#[105, 110]⟩ : ByteArray), (⟨#[105, 102]⟩ : ByteArray), (⟨#[116, 104, 101, 110]⟩ : ByteArray), (⟨#[101, 108, 115, 101]⟩ : ByteArray), (⟨#[102, 110]⟩ : ByteArray), (⟨#[99, 97, 108, 108]⟩ : ByteArray), (⟨#[100, 101, 102]⟩ : ByteArray), (⟨#[116, 114, 117, 101]⟩ : ByteArray), (⟨#[102, 97, 108, 115, 101]⟩ : ByteArray)]).map (·.toList) = keptW by decide +kernel]
/-! the reference's loop over bytes -/
def chkFrom (s : ByteArray) (kind : Int) : Nat → Nat → Int
  | 0, _ => kind
  | b + 1, pos => if pos < s.size then (if isDigit (bt s pos) = true then chkFrom s kind b (pos + 1) else if isLow (bt s pos) = true then chkFrom s kind b (pos + 1) else if isUp (bt s pos) = true then (if kind = 1 then 0 else chkFrom s kind b (pos + 1)) else 0) else kind
theorem ref_low (c : Int) : limbeckref01_Low.f c = some (isLow c) := low_is c
theorem ref_up (c : Int) : limbeckref01_Up.f c = some (isUp c) := up_is c
theorem ref_digit (c : Int) : limbeckref01_Digit.f c = some (isDigit c) := digit_is c
theorem kind_l0 (s : ByteArray) (hs : s.size ≤ 140737488351232) (kind : Int) (b pos : Nat) (hp : s.size ≤ pos + b) (hq : pos ≤ s.size) :
    Ev (fun k => limbeckref01_Kind.l0 k s kind pos) (chkFrom s kind b pos) := by
  induction b generalizing pos with
  | zero => exact Ev.step (fun _ => rfl) (Ev.neg (by omega) (Ev.rets rfl))
  | succ b ih =>
    unfold chkFrom
    refine Ev.step (fun _ => rfl) ?_
    by_cases h : pos < s.size
    · rw [if_pos h]
      refine Ev.pos (by omega) (Ev.pos (by omega) (Ev.bindc (ref_digit _) ?_))
      rw [wrap_in (by omega) (by omega)]
      by_cases e : isDigit (bt s pos) = true
      · rw [if_pos e]; exact Ev.pos e (ih (pos + 1) (by omega) (by omega))
      · rw [if_neg e]
        refine Ev.neg e (Ev.bindc (ref_low _) ?_)
        by_cases e : isLow (bt s pos) = true
        · rw [if_pos e]; exact Ev.pos e (ih (pos + 1) (by omega) (by omega))
        · rw [if_neg e]
          refine Ev.neg e (Ev.bindc (ref_up _) ?_)
          by_cases e : isUp (bt s pos) = true
          · rw [if_pos e]
            refine Ev.pos e ?_
            by_cases k1 : kind = 1
            · rw [if_pos k1]; exact Ev.pos k1 (Ev.rets rfl)
            · rw [if_neg k1]; exact Ev.neg k1 (ih (pos + 1) (by omega) (by omega))
          · rw [if_neg e]; exact Ev.neg e (Ev.rets rfl)
    · rw [if_neg h]; exact Ev.neg (by omega) (Ev.rets rfl)
def firstKind (s : ByteArray) : Int := if isUp (bt s 0) = true then 2 else if isLow (bt s 0) = true then 1 else 0
theorem ref_kind (s : ByteArray) (hs : s.size ≤ 140737488351232) :
    Ev (fun k => limbeckref01_Kind.f k s) (if s.toList ∈ keptW then 3 else if s.toList ∈ typeW then 4 else if s.size = 0 ∨ 8 < s.size then 0 else chkFrom s (firstKind s) (s.size - 1) 1) := by
  unfold limbeckref01_Kind.f
  refine Ev.bind (kept_f s) ?_
  by_cases h3 : s.toList ∈ keptW
  · rw [if_pos h3, if_pos h3]; exact Ev.neg (by decide) (Ev.rets rfl)
  rw [if_neg h3, if_neg h3]
  by_cases h4 : s.toList ∈ typeW
  · rw [if_pos h4, if_pos h4]; exact Ev.neg (by decide) (Ev.rets rfl)
  rw [if_neg h4, if_neg h4]
  refine Ev.pos rfl ?_
  by_cases h0 : s.size = 0
  · rw [if_pos (.inl h0)]
    refine Ev.pos (by omega) (Ev.step (fun _ => rfl) ?_)
    exact ⟨0, fun _ _ => rfl⟩
  refine Ev.neg (by omega) (Ev.step (fun _ => rfl) ?_)
  by_cases h8 : 8 < s.size
  · rw [if_pos (.inr h8)]
    exact Ev.pos (by simp; omega) (Ev.rets rfl)
  rw [if_neg (by omega)]
  refine Ev.neg (by simp; omega) (Ev.pos (by omega) (Ev.bindc (ref_low _) ?_))
  have hj2 : ∀ kind, Ev (fun k => limbeckref01_Kind.j2 k s kind) (chkFrom s kind (s.size - 1) 1) := fun kind => Ev.step (fun _ => rfl) (kind_l0 s hs kind (s.size - 1) 1 (by omega) (by omega))
  have hj1 : ∀ kind, Ev (fun k => limbeckref01_Kind.j1 k s kind) (chkFrom s (if isUp (bt s 0) = true then 2 else kind) (s.size - 1) 1) := fun kind => by
    refine Ev.step (fun _ => rfl) (Ev.pos (by omega) (Ev.bindc (ref_up _) ?_))
    by_cases e : isUp (bt s 0) = true
    · rw [if_pos e]; exact Ev.pos e (hj2 2)
    · rw [if_neg e]; exact Ev.neg e (hj2 kind)
  unfold firstKind
  by_cases e : isLow (bt s 0) = true
  · exact Ev.pos e (Ev.to (hj1 1) (by rw [if_pos e]))
  · exact Ev.neg e (Ev.to (hj1 0) (by rw [if_neg e]))
/-! runes and bytes -/
theorem decode_lo (s : ByteArray) (pos : Nat) (h : pos < s.size) (ha : bt s pos < 128) : ((Utf8.decode s pos).1 : Int) = bt s pos ∧ (Utf8.decode s pos).2 = 1 := by
  have hb : bt s pos = ((s[pos]'h).toNat : Int) := by unfold bt; rw [dif_pos (by simpa using h)]; rfl
  rw [decode_ascii s pos h (by omega)]
  exact ⟨hb.symm, rfl⟩
theorem decode_hi (s : ByteArray) (pos : Nat) (h : pos < s.size) (ha : ¬ bt s pos < 128) : 128 ≤ ((Utf8.decode s pos).1 : Int) := by
  have hb : bt s pos = ((s[pos]'h).toNat : Int) := by unfold bt; rw [dif_pos (by simpa using h)]; rfl
  have := (decode_high s pos h (by omega)).1
  omega
theorem hi_none (c : Int) (h : 128 ≤ c) : isLow c = false ∧ isUp c = false ∧ isDigit c = false := by
  unfold isLow isUp isDigit
  refine ⟨?_, ?_, ?_⟩ <;> (rw [Bool.and_eq_false_iff]; right; exact decide_eq_false (by omega))
theorem low_not_up (c : Int) (h : isLow c = true) : isUp c = false ∧ isDigit c = false := by
  unfold isLow isUp isDigit at *
  rw [Bool.and_eq_true, decide_eq_true_iff, decide_eq_true_iff] at h
  refine ⟨?_, ?_⟩ <;> (rw [Bool.and_eq_false_iff]; right; exact decide_eq_false (by omega))
theorem chk_zero (s : ByteArray) (b pos : Nat) : chkFrom s 0 b pos = 0 := by
  induction b generalizing pos with
  | zero => rfl
  | succ b ih => unfold chkFrom; repeat' split <;> first | rfl | exact ih _ | skip
theorem shape_chk (s : ByteArray) (kind : Int) (hk : kind = 1 ∨ kind = 2) (b pos : Nat) (hp : 0 < pos) : shapeFrom s b kind pos = chkFrom s kind b pos := by
  induction b generalizing pos with
  | zero => rfl
  | succ b ih =>
    unfold shapeFrom chkFrom
    by_cases h : pos < s.size
    · rw [if_pos h, if_pos h, if_neg (by omega)]
      by_cases ha : bt s pos < 128
      · obtain ⟨h1, h2⟩ := decode_lo s pos h ha
        rw [h1, h2, ih (pos + 1) (by omega)]
        by_cases c1 : isLow (bt s pos) = true
        · obtain ⟨h3, h4⟩ := low_not_up _ c1
          simp [c1, h4]
        · by_cases c2 : isDigit (bt s pos) = true
          · simp [c1, c2]
          · rcases hk with rfl | rfl
            · simp [c1, c2]
            · simp [c1, c2]
      · obtain ⟨g1, g2, g3⟩ := hi_none _ (decode_hi s pos h ha)
        obtain ⟨f1, f2, f3⟩ := hi_none (bt s pos) (by omega)
        simp [g1, g2, g3, f1, f2, f3]
    · rw [if_neg h, if_neg h]
theorem kind_same (s : ByteArray) : kindOf s = if s.toList ∈ keptW then 3 else if s.toList ∈ typeW then 4 else if s.size = 0 ∨ 8 < s.size then 0 else chkFrom s (firstKind s) (s.size - 1) 1 := by
  unfold kindOf
  by_cases h3 : s.toList ∈ keptW
  · rw [if_pos h3, if_pos h3]
  rw [if_neg h3, if_neg h3]
  by_cases h4 : s.toList ∈ typeW
  · rw [if_pos h4, if_pos h4]
  rw [if_neg h4, if_neg h4]
  by_cases h8 : (s.size : Int) > 8
  · rw [if_pos h8, if_pos (.inr (by omega))]
  rw [if_neg h8]
  cases hb : s.size with
  | zero => rw [if_pos (.inl rfl)]; rfl
  | succ b =>
    rw [if_neg (by omega)]
    unfold shapeFrom
    rw [if_pos (by omega), if_pos rfl]
    unfold firstKind
    by_cases ha : bt s (0 : Nat) < 128
    · obtain ⟨h1, h2⟩ := decode_lo s 0 (by omega) ha
      rw [h1, h2]
      have hz : bt s ((0 : Nat) : Int) = bt s 0 := rfl
      rw [hz]
      rw [Nat.add_sub_cancel]
      by_cases c1 : isLow (bt s 0) = true
      · obtain ⟨h3, _⟩ := low_not_up _ c1
        rw [if_pos c1, h3, if_neg (by decide), if_pos c1]
        exact shape_chk s 1 (.inl rfl) b 1 (by omega)
      · rw [if_neg c1]
        by_cases c2 : isUp (bt s 0) = true
        · rw [if_pos c2, if_pos c2]
          exact shape_chk s 2 (.inr rfl) b 1 (by omega)
        · rw [if_neg c2, if_neg c2, if_neg c1, chk_zero]
    · obtain ⟨g1, g2, g3⟩ := hi_none _ (decode_hi s 0 (by omega) ha)
      obtain ⟨f1, f2, f3⟩ := hi_none (bt s 0) (by have : bt s ((0 : Nat) : Int) = bt s 0 := rfl; omega)
      simp [g1, g2, f1, f2, chk_zero]
theorem index_nil (a : ByteArray) : Ev (fun k => slices_Index_string_string.f k [] a) (-1) := by
  unfold slices_Index_string_string.f
  exact Ev.step (fun _ => rfl) (Ev.neg (by decide) (Ev.rets rfl))
theorem awake_true : Ev (fun k => limbecklaw01_awake.f k) true := by
  unfold limbecklaw01_awake.f
  refine Ev.bind (name_kind _) (Ev.pos (by decide +kernel) ?_)
  refine Ev.bind (name_kind _) (Ev.pos (by decide +kernel) ?_)
  refine Ev.bind (name_kind _) (Ev.pos (by decide +kernel) ?_)
  refine Ev.bind (name_kind _) (Ev.pos (by decide +kernel) ?_)
  refine Ev.bind (name_fine _) (Ev.pos (by decide +kernel) ?_)
  refine Ev.bind (name_var _) (Ev.pos (by decide +kernel) ?_)
  unfold name_Fresh.f slices_Contains_string_string.f
  exact Ev.bind (Ev.bind (Ev.bind (index_nil _) (Ev.rets rfl)) (Ev.rets rfl)) (Ev.rets rfl)

/-! ### lists of texts: rising, places -/
def risesFrom (l : List ByteArray) : Nat → Nat → Bool
  | 0, _ => true
  | d + 1, i => if (kindOf (rdOf ByteArray.empty l i) == 1) = true then (if 0 < i then (if Op.bytesLess (rdOf ByteArray.empty l (i - 1 : Nat)).toList (rdOf ByteArray.empty l i).toList = true then risesFrom l d (i + 1) else false) else risesFrom l d (i + 1)) else false
theorem name_rising_l (l : List ByteArray) (hl : l.length ≤ 140737488351232) (d i : Nat) (hd : d + i = l.length) :
    Ev (fun k => name_Rising.l0 k l l l.length i) (risesFrom l d i) := by
  induction d generalizing i with
  | zero => exact Ev.step (fun _ => rfl) (Ev.neg (by omega) (Ev.rets rfl))
  | succ d ih =>
    unfold risesFrom
    refine Ev.step (fun _ => rfl) (Ev.pos (by omega) (Ev.pos (by omega) (Ev.pos (by omega) (Ev.bind (name_fine _) ?_))))
    rw [wrap_in (show -9223372036854775808 ≤ (i : Int) + 1 by omega) (by omega), wrap_in (show -9223372036854775808 ≤ (i : Int) - 1 by omega) (by omega)]
    by_cases h1 : (kindOf (rdOf ByteArray.empty l i) == 1) = true
    · rw [if_pos h1]
      refine Ev.pos h1 ?_
      by_cases h2 : 0 < i
      · rw [if_pos h2]
        refine Ev.pos (by omega) (Ev.pos (by omega) (Ev.pos (by omega) ?_))
        rw [show (i : Int) - 1 = ((i - 1 : Nat) : Int) by omega]
        by_cases h3 : Op.bytesLess (rdOf ByteArray.empty l (i - 1 : Nat)).toList (rdOf ByteArray.empty l i).toList = true
        · rw [if_pos h3]; exact Ev.pos h3 (ih (i + 1) (by omega))
        · rw [if_neg h3]; exact Ev.neg h3 (Ev.rets rfl)
      · rw [if_neg h2]; exact Ev.neg (by omega) (ih (i + 1) (by omega))
    · rw [if_neg h1]; exact Ev.neg h1 (Ev.rets rfl)
theorem name_rising (l : List ByteArray) (hl : l.length ≤ 140737488351232) : Ev (fun k => name_Rising.f k l) (risesFrom l l.length 0) := by
  unfold name_Rising.f
  exact name_rising_l l hl l.length 0 (by omega)
def placeFrom (l : List ByteArray) (a : ByteArray) : Nat → Nat → Int
  | 0, _ => -1
  | d + 1, i => if (rdOf ByteArray.empty l i).toList = a.toList then i else placeFrom l a d (i + 1)
theorem index_l (l : List ByteArray) (hl : l.length ≤ 140737488351232) (a : ByteArray) (d i : Nat) (hd : d + i = l.length) :
    Ev (fun k => slices_Index_string_string.l0 k l a l.length i) (placeFrom l a d i) := by
  induction d generalizing i with
  | zero => exact Ev.step (fun _ => rfl) (Ev.neg (by omega) (Ev.rets rfl))
  | succ d ih =>
    unfold placeFrom
    refine Ev.step (fun _ => rfl) (Ev.pos (by omega) (Ev.pos (by omega) (Ev.pos (by omega) ?_)))
    rw [wrap_in (by omega) (by omega)]
    by_cases h : (rdOf ByteArray.empty l i).toList = a.toList
    · rw [if_pos h]; exact Ev.pos h.symm (Ev.rets rfl)
    · rw [if_neg h]; exact Ev.neg (fun e => h e.symm) (ih (i + 1) (by omega))
theorem name_fresh (l : List ByteArray) (hl : l.length ≤ 140737488351232) (a : ByteArray) : Ev (fun k => name_Fresh.f k l a) (decide (placeFrom l a l.length 0 < 0)) := by
  unfold name_Fresh.f slices_Contains_string_string.f slices_Index_string_string.f
  refine Ev.bind (Ev.bind (index_l l hl a l.length 0 (by omega)) (Ev.rets rfl)) (Ev.rets ?_)
  by_cases h : placeFrom l a l.length 0 < 0
  · rw [decide_eq_true h, decide_eq_false (by omega)]; rfl
  · rw [decide_eq_false h, decide_eq_true (by omega)]; rfl

theorem ref_place_l (l : List ByteArray) (hl : l.length ≤ 140737488351232) (a : ByteArray) (d i : Nat) (hd : d + i = l.length) :
    Ev (fun k => limbeckref01_Place.l0 k l a i) (placeFrom l a d i) := by
  induction d generalizing i with
  | zero => exact Ev.step (fun _ => rfl) (Ev.neg (by omega) (Ev.rets rfl))
  | succ d ih =>
    unfold placeFrom
    refine Ev.step (fun _ => rfl) (Ev.pos (by omega) (Ev.pos (by omega) ?_))
    rw [wrap_in (by omega) (by omega)]
    by_cases h : (rdOf ByteArray.empty l i).toList = a.toList
    · rw [if_pos h]; exact Ev.pos h (Ev.rets rfl)
    · rw [if_neg h]; exact Ev.neg h (ih (i + 1) (by omega))
theorem ref_place (l : List ByteArray) (hl : l.length ≤ 140737488351232) (a : ByteArray) : Ev (fun k => limbeckref01_Place.f k l a) (placeFrom l a l.length 0) := by
  unfold limbeckref01_Place.f
  exact ref_place_l l hl a l.length 0 (by omega)
theorem ref_fine (a : ByteArray) (ha : a.size ≤ 140737488351232) : Ev (fun k => limbeckref01_Fine.f k a) (kindOf a == 1) := by
  unfold limbeckref01_Fine.f
  have hk := ref_kind a ha
  rw [← kind_same] at hk
  exact Ev.bind hk (Ev.rets rfl)
theorem rdOf_mem (l : List ByteArray) (i : Nat) (h : i < l.length) : rdOf ByteArray.empty l (i : Int) ∈ l := by
  rw [rdOf_get l i h]; exact List.getElem_mem h
theorem ref_rising_l (l : List ByteArray) (hl : l.length ≤ 140737488351232) (ho : ∀ y, y ∈ l → y.size ≤ 140737488351232) (d i : Nat) (hd : d + i = l.length) :
    Ev (fun k => limbeckref01_Rising.l0 k l i) (risesFrom l d i) := by
  induction d generalizing i with
  | zero => exact Ev.step (fun _ => rfl) (Ev.neg (by omega) (Ev.rets rfl))
  | succ d ih =>
    unfold risesFrom
    refine Ev.step (fun _ => rfl) (Ev.pos (by omega) (Ev.pos (by omega) (Ev.bind (ref_fine _ (ho _ (rdOf_mem l i (by omega)))) ?_)))
    rw [wrap_in (show -9223372036854775808 ≤ (i : Int) + 1 by omega) (by omega), wrap_in (show -9223372036854775808 ≤ (i : Int) - 1 by omega) (by omega)]
    by_cases h1 : (kindOf (rdOf ByteArray.empty l i) == 1) = true
    · rw [if_pos h1]
      refine Ev.pos h1 ?_
      by_cases h2 : 0 < i
      · rw [if_pos h2]
        refine Ev.pos (by omega) (Ev.pos (by omega) (Ev.pos (by omega) ?_))
        rw [show (i : Int) - 1 = ((i - 1 : Nat) : Int) by omega]
        by_cases h3 : Op.bytesLess (rdOf ByteArray.empty l (i - 1 : Nat)).toList (rdOf ByteArray.empty l i).toList = true
        · rw [if_pos h3]; exact Ev.pos h3 (ih (i + 1) (by omega))
        · rw [if_neg h3]; exact Ev.neg h3 (Ev.rets rfl)
      · rw [if_neg h2]; exact Ev.neg (by omega) (ih (i + 1) (by omega))
    · rw [if_neg h1]; exact Ev.neg h1 (Ev.rets rfl)
theorem ref_rising (l : List ByteArray) (hl : l.length ≤ 140737488351232) (ho : ∀ y, y ∈ l → y.size ≤ 140737488351232) : Ev (fun k => limbeckref01_Rising.f k l) (risesFrom l l.length 0) := by
  unfold limbeckref01_Rising.f
  exact ref_rising_l l hl ho l.length 0 (by omega)

theorem NameLists : limbecklaw01_NameLists.Pure := by
  intro l s ⟨hl, ho⟩ hs
  have hl' : l.length ≤ 140737488351232 := by omega
  refine Ev.rounds ?_
  unfold limbecklaw01_NameLists.f
  by_cases h : (l.length : Int) > 100
  · exact Ev.pos h (Ev.bind awake_true (Ev.rets rfl))
  · exact Ev.neg h (Ev.bind (name_rising l hl') (Ev.bind (ref_rising l hl' ho) (Ev.pos (by simp) (Ev.bind (name_fresh l hl' s) (Ev.bind (ref_place l hl' s) (Ev.pos (by simp) (Ev.bind awake_true (Ev.rets rfl))))))))


end Go.Proofs.Ytophddbbeechkaa.Pure

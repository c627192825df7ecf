/-
  ConvKeeps: texts of this claim, put together by a program of this session. No conditions beyond what each lemma says.
-/
import Derived.Test.YtnfnhjhnfdkinaazConvKeeps44
import Derived.Test.YtnfnhjhnfdkinaazConvKeeps23
import Derived.Test.YtnfnhjhnfdkinaazConvKeeps21
import Derived.Test.YtnfnhjhnfdkinaazConvKeeps24
namespace Go.Proofs.Ytnfnhjhnfdkinaa.PConvBack
open Go.RowKit Go.Proofs.YtnfnhjhnfdkinaaW.Mine Go.Proofs.YtnfnhjhnfdkinaaW.PrintWords Go.Proofs.YtnfnhjhnfdkinaaW.PrintLast Go.Proofs.YtnfnhjhnfdkinaaW.PrintMore
set_option linter.unusedVariables false
set_option linter.unusedSimpArgs false
/-- It answers, and what it answers is so. -/
def Tells {α : Type} (f : Nat → Option α) (P : α → Prop) : Prop := ∃ r, Ev f r ∧ P r
theorem Tells.step {α : Type} {g f : Nat → Option α} {P : α → Prop} (h : ∀ k, g (k + 1) = f k) (k : Tells f P) : Tells g P := by
  obtain ⟨r, h1, h2⟩ := k; exact ⟨r, Ev.step h h1, h2⟩
theorem Tells.ret {α : Type} {x : α} {P : α → Prop} (h : P x) : Tells (fun _ => some x) P := ⟨x, Ev.rets rfl, h⟩
theorem Tells.ite {α : Type} {c : Prop} [Decidable c] {f g : Nat → Option α} {P : α → Prop} (h1 : c → Tells f P) (h2 : ¬ c → Tells g P) : Tells (fun n => if c then f n else g n) P := by
  by_cases h : c
  · obtain ⟨r, k1, k2⟩ := h1 h; exact ⟨r, Ev.pos h k1, k2⟩
  · obtain ⟨r, k1, k2⟩ := h2 h; exact ⟨r, Ev.neg h k1, k2⟩
theorem Tells.yes {α : Type} {c : Prop} [Decidable c] {f g : Nat → Option α} {P : α → Prop} (h : c) (k : Tells f P) : Tells (fun n => if c then f n else g n) P := Tells.ite (fun _ => k) (fun h' => absurd h h')
theorem Tells.bind {α β : Type} {g : Nat → Option α} {f : Nat → α → Option β} {Q : α → Prop} {P : β → Prop} (h : Tells g Q) (k : ∀ a, Q a → Tells (fun n => f n a) P) : Tells (fun n => (g n).bind (f n)) P := by
  obtain ⟨a, h1, h2⟩ := h
  obtain ⟨r, h3, h4⟩ := k a h2
  exact ⟨r, Ev.bind h1 h3, h4⟩
theorem Tells.bindc {α β : Type} {x : Option α} {f : Nat → α → Option β} {P : β → Prop} (h : ∃ a, x = some a) (k : ∀ a, Tells (fun n => f n a) P) : Tells (fun n => x.bind (f n)) P := by
  obtain ⟨a, rfl⟩ := h
  exact k a
theorem Tells.mono {α : Type} {f : Nat → Option α} {P Q : α → Prop} (h : Tells f P) (k : ∀ a, P a → Q a) : Tells f Q := by
  obtain ⟨r, h1, h2⟩ := h; exact ⟨r, h1, k r h2⟩
/-- Words that are read. -/
inductive Okw : Ty → Prop
  | mk (x : Ty) (h2 : x.f2.size ≤ 140737488351232) (h3 : ∀ y, y ∈ x.f3 → y.size ≤ 140737488351232) (hs : ∀ y, y ∈ x.f4 → Okw y) : Okw x
theorem Okw.name {x : Ty} (h : Okw x) : x.f2.size ≤ 140737488351232 := by cases h; assumption
theorem Okw.words {x : Ty} (h : Okw x) : ∀ y, y ∈ x.f3 → y.size ≤ 140737488351232 := by cases h; assumption
theorem Okw.all {x : Ty} (h : Okw x) : ∀ y, y ∈ x.f4 → Okw y := by cases h; assumption
theorem kept_l1 (a : ByteArray) (xs : List ByteArray) (hx : xs.length < 1000) : ∀ (d i : Nat), d + i = xs.length → Tells (fun k => limbeckref01_Kept.l1 k a xs i) (fun _ => True)
  | 0, i, h => Tells.step (fun _ => rfl) (Tells.ite (fun h => by omega) (fun _ => Tells.ret trivial))
  | d + 1, i, h => Tells.step (fun _ => rfl) (Tells.ite (fun _ => Tells.yes (by omega) (Tells.ite (fun _ => Tells.ret trivial) (fun _ => by
      rw [wrap_in (show -9223372036854775808 ≤ (i : Int) + 1 by omega) (by omega)]
      exact kept_l1 a xs hx d (i + 1) (by omega)))) (fun _ => Tells.ret trivial))
theorem kept_l0 (a : ByteArray) (xs : List ByteArray) (hx : xs.length < 1000) : ∀ (d i : Nat), d + i = xs.length → Tells (fun k => limbeckref01_Kept.l0 k a xs i) (fun _ => True)
  | 0, i, h => Tells.step (fun _ => rfl) (Tells.ite (fun h => by omega) (fun _ => kept_l1 a _ (by decide) 4 0 (by decide)))
  | d + 1, i, h => Tells.step (fun _ => rfl) (Tells.ite (fun _ => Tells.yes (by omega) (Tells.ite (fun _ => Tells.ret trivial) (fun _ => by
      rw [wrap_in (show -9223372036854775808 ≤ (i : Int) + 1 by omega) (by omega)]
      exact kept_l0 a xs hx d (i + 1) (by omega)))) (fun h => absurd (show (i : Int) < (xs.length : Int) by omega) h))
theorem kept_told (a : ByteArray) : Tells (fun k => limbeckref01_Kept.f k a) (fun _ => True) := by
  unfold limbeckref01_Kept.f
  exact kept_l0 a _ (by decide) 10 0 (by decide)
theorem low_told (c : Int) : ∃ b, limbeckref01_Low.f c = some b := by unfold limbeckref01_Low.f; split <;> exact ⟨_, rfl⟩
theorem up_told (c : Int) : ∃ b, limbeckref01_Up.f c = some b := by unfold limbeckref01_Up.f; split <;> exact ⟨_, rfl⟩
theorem digit_told (c : Int) : ∃ b, limbeckref01_Digit.f c = some b := by unfold limbeckref01_Digit.f; split <;> exact ⟨_, rfl⟩
theorem kind_l0 (s : ByteArray) (hs : s.size ≤ 140737488351232) : ∀ (d i : Nat) (kind : Int), s.size ≤ d + i → i ≤ 140737488351233 → Tells (fun k => limbeckref01_Kind.l0 k s kind i) (fun _ => True)
  | 0, i, kind, h, _ => Tells.step (fun _ => rfl) (Tells.ite (fun h => by omega) (fun _ => Tells.ret trivial))
  | d + 1, i, kind, h, hi => by
    have hw : wrap64 ((i : Int) + 1) = ((i + 1 : Nat) : Int) := by rw [wrap_in (by omega) (by omega)]; rfl
    refine Tells.step (fun _ => rfl) (Tells.ite (fun hlt => Tells.yes (by omega) (Tells.bindc (digit_told _) (fun b1 => ?_))) (fun _ => Tells.ret trivial))
    have ih : ∀ kind, Tells (fun k => limbeckref01_Kind.l0 k s kind ((i + 1 : Nat) : Int)) (fun _ => True) := fun kind => kind_l0 s hs d (i + 1) kind (by omega) (by omega)
    rw [hw]
    exact Tells.ite (fun _ => ih _) (fun _ => Tells.bindc (low_told _) (fun b2 => Tells.ite (fun _ => ih _) (fun _ => Tells.bindc (up_told _) (fun b3 => Tells.ite (fun _ => Tells.ite (fun _ => Tells.ret trivial) (fun _ => ih _)) (fun _ => Tells.ret trivial)))))
theorem kind_told (a : ByteArray) (ha : a.size ≤ 140737488351232) : Tells (fun k => limbeckref01_Kind.f k a) (fun _ => True) := by
  have h2 : ∀ kind, Tells (fun k => limbeckref01_Kind.j2 k a kind) (fun _ => True) := fun kind => Tells.step (fun _ => rfl) (kind_l0 a ha a.size 1 kind (by omega) (by omega))
  have h1 : 0 < (a.size : Int) → ∀ kind, Tells (fun k => limbeckref01_Kind.j1 k a kind) (fun _ => True) := fun h0 kind => Tells.step (fun _ => rfl) (Tells.yes h0 (Tells.bindc (up_told _) (fun b => Tells.ite (fun _ => h2 _) (fun _ => h2 _))))
  have h0 : ∀ b, (b = false → 0 < (a.size : Int)) → Tells (fun k => limbeckref01_Kind.j0 k a b) (fun _ => True) := fun b hb => Tells.step (fun _ => rfl) (Tells.ite (fun _ => Tells.ret trivial) (fun h => by
    have h := hb (by simpa using h)
    exact Tells.yes h (Tells.bindc (low_told _) (fun b => Tells.ite (fun _ => h1 h _) (fun _ => h1 h _)))))
  unfold limbeckref01_Kind.f
  exact Tells.bind (kept_told a) (fun t _ => Tells.ite (fun _ => Tells.ite (fun _ => h0 _ (fun h => by cases h)) (fun h => h0 _ (fun _ => by omega))) (fun _ => Tells.ret trivial))
theorem fine_told (a : ByteArray) (ha : a.size ≤ 140737488351232) : Tells (fun k => limbeckref01_Fine.f k a) (fun _ => True) := by
  unfold limbeckref01_Fine.f
  exact Tells.bind (kind_told a ha) (fun _ _ => Tells.ret trivial)
theorem var_told (a : ByteArray) (ha : a.size ≤ 140737488351232) : Tells (fun k => limbeckref01_Var.f k a) (fun _ => True) := by
  unfold limbeckref01_Var.f
  exact Tells.bind (kind_told a ha) (fun _ _ => Tells.ret trivial)
theorem less_irrefl : ∀ (a : List UInt8), Op.bytesLess a a = false
  | [] => rfl
  | x :: a => by
    unfold Op.bytesLess
    rw [less_irrefl a]
    simp
theorem less_trans : ∀ (a b c : List UInt8), Op.bytesLess a b = true → Op.bytesLess b c = true → Op.bytesLess a c = true
  | _, [], _, h, _ => by simp [Op.bytesLess] at h
  | _, _ :: _, [], _, h => by simp [Op.bytesLess] at h
  | [], _ :: _, _ :: _, _, _ => rfl
  | x :: a, y :: b, z :: c, h1, h2 => by
    unfold Op.bytesLess at h1 h2 ⊢
    simp only [Bool.or_eq_true, Bool.and_eq_true, decide_eq_true_iff, beq_iff_eq] at h1 h2 ⊢
    rcases h1 with h1 | ⟨rfl, h1⟩
    · rcases h2 with h2 | ⟨rfl, h2⟩
      · exact .inl (UInt8.lt_trans h1 h2)
      · exact .inl h1
    · rcases h2 with h2 | ⟨rfl, h2⟩
      · exact .inl h2
      · exact .inr ⟨rfl, less_trans a b c h1 h2⟩
theorem rdOfB (xs : List ByteArray) (i : Nat) (h : i < xs.length) : rdOf ByteArray.empty xs (i : Int) = xs[i] := by
  unfold rdOf
  rw [Int.toNat_natCast, List.getD_eq_getElem?_getD, List.getElem?_eq_getElem h]; rfl
theorem rising_l (l : List ByteArray) (hl : l.length ≤ 140737488351232) (ho : ∀ y, y ∈ l → y.size ≤ 140737488351232) : ∀ (d i : Nat), d + i = l.length →
    Tells (fun k => limbeckref01_Rising.l0 k l i) (fun b => b = true → ∀ j, i ≤ j → ∀ (h : j < l.length), 0 < j → Op.bytesLess (l[j - 1]'(by omega)).toList (l[j]).toList = true)
  | 0, i, h => Tells.step (fun _ => rfl) (Tells.ite (fun h => by omega) (fun _ => Tells.ret (fun _ j h1 h2 => by omega)))
  | d + 1, i, h => by
    have ih := rising_l l hl ho d (i + 1) (by omega)
    have hi : i < l.length := by omega
    have hw : wrap64 ((i : Int) + 1) = ((i + 1 : Nat) : Int) := by rw [wrap_in (by omega) (by omega)]; rfl
    refine Tells.step (fun _ => rfl) (Tells.yes (by omega) (Tells.yes (by omega) (Tells.bind (fine_told _ (by rw [rdOfB l i hi]; exact ho _ (List.getElem_mem hi))) (fun b _ => ?_))))
    rw [hw]
    refine Tells.ite (fun _ => Tells.ite (fun h0 => ?_) (fun h0 => ?_)) (fun _ => Tells.ret (fun h => by cases h))
    · have hw2 : wrap64 ((i : Int) - 1) = ((i - 1 : Nat) : Int) := by rw [wrap_in (by omega) (by omega)]; omega
      rw [hw2]
      refine Tells.yes (by omega) (Tells.yes (by omega) (Tells.ite (fun hb => ih.mono (fun b hk hb1 j h1 h2 h3 => ?_)) (fun _ => Tells.ret (fun h => by cases h))))
      rcases Nat.eq_or_lt_of_le h1 with rfl | h1
      · rw [rdOfB l i hi, rdOfB l (i - 1) (by omega)] at hb; exact hb
      · exact hk hb1 j h1 h2 h3
    · exact ih.mono (fun b hk hb1 j h1 h2 h3 => hk hb1 j (by omega) h2 h3)
theorem rising_told (l : List ByteArray) (hl : l.length ≤ 140737488351232) (ho : ∀ y, y ∈ l → y.size ≤ 140737488351232) : Tells (fun k => limbeckref01_Rising.f k l) (fun b => b = true → l.Nodup) := by
  unfold limbeckref01_Rising.f
  refine (rising_l l hl ho l.length 0 (by omega)).mono (fun b h hb => ?_)
  have h := h hb
  have hp : l.Pairwise (fun a b => Op.bytesLess a.toList b.toList = true) := by
    rw [List.pairwise_iff_getElem]
    intro i j hi hj hij
    generalize hd : j - i = d
    induction d generalizing j with
    | zero => omega
    | succ d ih =>
      have h1 := h j (Nat.zero_le _) hj (by omega)
      by_cases e : i = j - 1
      · subst e; exact h1
      · exact less_trans _ _ _ (ih (j - 1) (by omega) (by omega) (by omega)) h1
  refine hp.imp ?_
  intro a b hab he
  subst he
  rw [less_irrefl] at hab
  cases hab
def Shape (x : Ty) : Prop := (x.f0 = 8 → x.f4.length = x.f3.length ∧ x.f3.Nodup) ∧ (x.f0 = 7 ∨ x.f0 = 8 ∨ x.f4 = [])
theorem nil_of {α : Type} {l : List α} (h : ((l.length : Int) == 0) = true) : l = [] := by
  cases l with
  | nil => rfl
  | cons a l => simp at h; omega
theorem Shape.nil {x : Ty} (h : x.f4 = []) (h8 : ¬ x.f0 = 8) : Shape x := ⟨fun h => absurd h h8, .inr (.inr h)⟩
theorem right_j2 (x : Ty) (o : Okt x) (ow : Okw x) (b : Bool) (hb : b = true → x.f0 ≤ 5) : Tells (fun k => limbeckref04_Right.j2 k b x.f0 x.f1 x.f2 x.f3 x.f4) (fun b => b = true → Shape x) := by
  refine Tells.step (fun _ => rfl) (Tells.ite (fun h => Tells.ret (fun hk => Shape.nil (nil_of hk) (by have := hb h; omega))) (fun _ => ?_))
  refine Tells.ite (fun h6 => Tells.bind (var_told _ ow.name) (fun t _ => Tells.ite (fun _ => Tells.ret (fun hk => Shape.nil (nil_of hk) (by omega))) (fun _ => Tells.ret (fun h => by cases h)))) (fun _ => ?_)
  refine Tells.ite (fun h9 => Tells.ite (fun _ => Tells.ite (fun _ => Tells.ret (fun hk => Shape.nil (nil_of hk) (by omega))) (fun _ => Tells.ret (fun h => by cases h))) (fun _ => Tells.ret (fun h => by cases h))) (fun _ => ?_)
  refine Tells.ite (fun h7 => Tells.ret (fun _ => ⟨fun h => by omega, .inl h7⟩)) (fun _ => ?_)
  refine Tells.ite (fun h8 => Tells.bind (rising_told _ o.l3 ow.words) (fun t ht => Tells.ite (fun hk => Tells.ret (fun hl => ⟨fun _ => ⟨?_, ht hk⟩, .inr (.inl h8)⟩)) (fun _ => Tells.ret (fun h => by cases h)))) (fun _ => Tells.ret (fun h => by cases h))
  have := eq_of_beq hl
  omega
theorem right_j1 (x : Ty) (o : Okt x) (ow : Okw x) (b : Bool) : Tells (fun k => limbeckref04_Right.j1 k b x.f0 x.f1 x.f2 x.f3 x.f4) (fun b => b = true → Shape x) :=
  Tells.step (fun _ => rfl) (Tells.ite (fun h => Tells.ret (fun h => by cases h)) (fun _ => Tells.ite (fun _ => right_j2 x o ow _ (fun h => of_decide_eq_true h)) (fun _ => right_j2 x o ow _ (fun h => by cases h))))
abbrev RightF (k : Nat) (y : Ty) : Option Bool := limbeckref04_Right.f k y.f0 y.f1 y.f2 y.f3 y.f4
theorem right_l0 (x : Ty) (o : Okt x) (ow : Okw x) (hs : ∀ y, y ∈ x.f4 → Tells (fun k => RightF k y) (fun b => b = true → Rp y)) : ∀ (d i : Nat), d + i = x.f4.length →
    Tells (fun k => limbeckref04_Right.l0 k i x.f0 x.f1 x.f2 x.f3 x.f4) (fun b => b = true → Shape x ∧ ∀ j, i ≤ j → ∀ (h : j < x.f4.length), Rp x.f4[j])
  | 0, i, h => by
    refine Tells.step (fun _ => rfl) (Tells.ite (fun h => by omega) (fun _ => ?_))
    refine Tells.mono (P := fun b => b = true → Shape x) ?_ (fun b hb hk => ⟨hb hk, fun j h1 h2 => by omega⟩)
    repeat' first
      | exact right_j1 x o ow _
      | exact Tells.ret (fun h => by cases h)
      | refine Tells.ite (fun _ => ?_) (fun _ => ?_)
  | d + 1, i, h => by
    have ih := right_l0 x o ow hs d (i + 1) (by omega)
    have hi : i < x.f4.length := by omega
    have hl := o.l80
    have hw : wrap64 ((i : Int) + 1) = ((i + 1 : Nat) : Int) := by rw [wrap_in (by omega) (by omega)]; rfl
    have hy := hs _ (List.getElem_mem hi)
    rw [← rdT_at x.f4 i hi] at hy
    refine Tells.step (fun _ => rfl) (Tells.yes (by omega) (Tells.yes (by omega) (Tells.bind hy (fun b hb => ?_))))
    rw [hw]
    refine Tells.ite (fun hk => ih.mono (fun b h1 h2 => ⟨(h1 h2).1, fun j h3 h4 => ?_⟩)) (fun _ => Tells.ret (fun h => by cases h))
    rcases Nat.eq_or_lt_of_le h3 with rfl | h3
    · have := hb hk; rwa [rdT_at x.f4 i hi] at this
    · exact (h1 h2).2 j h3 h4
theorem right_told : ∀ (n : Nat) (x : Ty), SizeOf.sizeOf x < n → Okt x → Okw x → Tells (fun k => RightF k x) (fun b => b = true → Rp x)
  | 0, _, h, _, _ => absurd h (Nat.not_lt_zero _)
  | n + 1, x, h, o, ow => by
    have hs : ∀ y, y ∈ x.f4 → Tells (fun k => RightF k y) (fun b => b = true → Rp y) := fun y hy => right_told n y (by have := size_args x y hy; omega) (o.all y hy) (ow.all y hy)
    refine Tells.step (fun _ => rfl) ((right_l0 x o ow hs x.f4.length 0 (by omega)).mono (fun b hb hk => ?_))
    obtain ⟨h1, h2⟩ := hb hk
    exact .mk x h1.1 h1.2 (fun y hy => by obtain ⟨j, hj, rfl⟩ := List.mem_iff_getElem.1 hy; exact h2 j (Nat.zero_le _) hj)
abbrev HasF (k : Nat) (y : Ty) (c : Int) : Option Bool := limbeckref04_Has.f k y.f0 y.f1 y.f2 y.f3 y.f4 c
theorem has_l0 (c : Int) (x : Ty) (o : Okt x) (hs : ∀ y, y ∈ x.f4 → Tells (fun k => HasF k y c) (fun b => b = false → c = 7 → Nofun y)) : ∀ (d i : Nat), d + i = x.f4.length →
    Tells (fun k => limbeckref04_Has.l0 k c i x.f0 x.f1 x.f2 x.f3 x.f4) (fun b => b = false → c = 7 → ∀ j, i ≤ j → ∀ (h : j < x.f4.length), Nofun x.f4[j])
  | 0, i, h => Tells.step (fun _ => rfl) (Tells.ite (fun h => by omega) (fun _ => Tells.ret (fun _ _ j h1 h2 => by omega)))
  | d + 1, i, h => by
    have ih := has_l0 c x o hs d (i + 1) (by omega)
    have hi : i < x.f4.length := by omega
    have hl := o.l80
    have hw : wrap64 ((i : Int) + 1) = ((i + 1 : Nat) : Int) := by rw [wrap_in (by omega) (by omega)]; rfl
    have hy := hs _ (List.getElem_mem hi)
    rw [← rdT_at x.f4 i hi] at hy
    refine Tells.step (fun _ => rfl) (Tells.yes (by omega) (Tells.yes (by omega) (Tells.bind hy (fun b hb => ?_))))
    rw [hw]
    refine Tells.ite (fun hk => Tells.ret (fun h => by cases h)) (fun hk => ih.mono (fun b h1 h2 h7 j h3 h4 => ?_))
    rcases Nat.eq_or_lt_of_le h3 with rfl | h3
    · have := hb (by simpa using hk) h7; rwa [rdT_at x.f4 i hi] at this
    · exact h1 h2 h7 j h3 h4
theorem has_told (c : Int) : ∀ (n : Nat) (x : Ty), SizeOf.sizeOf x < n → Okt x → Tells (fun k => HasF k x c) (fun b => b = false → c = 7 → Nofun x)
  | 0, _, h, _ => absurd h (Nat.not_lt_zero _)
  | n + 1, x, h, o => by
    have hs : ∀ y, y ∈ x.f4 → Tells (fun k => HasF k y c) (fun b => b = false → c = 7 → Nofun y) := fun y hy => has_told c n y (by have := size_args x y hy; omega) (o.all y hy)
    refine Tells.step (fun _ => rfl) (Tells.ite (fun _ => Tells.ret (fun h => by cases h)) (fun hc => (has_l0 c x o hs x.f4.length 0 (by omega)).mono (fun b hb h1 h7 => ?_)))
    exact .mk x (by omega) (fun y hy => by obtain ⟨j, hj, rfl⟩ := List.mem_iff_getElem.1 hy; exact hb h1 h7 j (Nat.zero_le _) hj)
theorem closed_told {x : Ty} (o : Okt x) : Tells (fun k => limbeckref04_Closed.f k x.f0 x.f1 x.f2 x.f3 x.f4) (fun _ => True) := by
  unfold limbeckref04_Closed.f
  exact Tells.bind (has_told 6 _ x (Nat.lt_succ_self _) o) (fun _ _ => Tells.ret trivial)
abbrev AheadF (k : Nat) (y : Ty) (c : Int) : Option Bool := limbeckref28_ahead.f k y.f0 y.f1 y.f2 y.f3 y.f4 c
theorem ahead_l0 (c : Int) (x : Ty) (o : Okt x) (hs : ∀ y, y ∈ x.f4 → Tells (fun k => AheadF k y c) (fun _ => True)) : ∀ (d i : Nat), d + i = x.f4.length →
    Tells (fun k => limbeckref28_ahead.l0 k c i x.f0 x.f1 x.f2 x.f3 x.f4) (fun _ => True)
  | 0, i, h => Tells.step (fun _ => rfl) (Tells.ite (fun h => by omega) (fun _ => Tells.ret trivial))
  | d + 1, i, h => by
    have ih := ahead_l0 c x o hs d (i + 1) (by omega)
    have hi : i < x.f4.length := by omega
    have hl := o.l80
    have hw : wrap64 ((i : Int) + 1) = ((i + 1 : Nat) : Int) := by rw [wrap_in (by omega) (by omega)]; rfl
    have hy := hs _ (List.getElem_mem hi)
    rw [← rdT_at x.f4 i hi] at hy
    refine Tells.step (fun _ => rfl) (Tells.yes (by omega) (Tells.yes (by omega) (Tells.bind hy (fun b hb => ?_))))
    rw [hw]
    exact Tells.ite (fun hk => ih) (fun hk => Tells.ret trivial)
theorem ahead_told (c : Int) : ∀ (n : Nat) (x : Ty), SizeOf.sizeOf x < n → Okt x → Tells (fun k => AheadF k x c) (fun _ => True)
  | 0, _, h, _ => absurd h (Nat.not_lt_zero _)
  | n + 1, x, h, o => by
    have hs : ∀ y, y ∈ x.f4 → Tells (fun k => AheadF k y c) (fun _ => True) := fun y hy => ahead_told c n y (by have := size_args x y hy; omega) (o.all y hy)
    have hj : ∀ b, Tells (fun k => limbeckref28_ahead.j0 k c b x.f0 x.f1 x.f2 x.f3 x.f4) (fun _ => True) := fun b => Tells.step (fun _ => rfl) (Tells.ite (fun _ => Tells.ret trivial) (fun _ => ahead_l0 c x o hs x.f4.length 0 (by omega)))
    exact Tells.step (fun _ => rfl) (Tells.ite (fun _ => hj _) (fun _ => hj _))
end Go.Proofs.Ytnfnhjhnfdkinaa.PConvBack

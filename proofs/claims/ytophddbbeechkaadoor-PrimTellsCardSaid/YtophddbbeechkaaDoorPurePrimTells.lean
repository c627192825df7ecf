/-
  PrimTells: the pure part: how much a value has is told, for every value.
-/
import Derived.Test.YtophddbbeechkaaDoorSPrimTells
namespace Go.Proofs.YtophddbbeechkaaDoor.Pure
set_option linter.unusedVariables false
open Go.RowKit Go.Proofs.YtophddbbeechkaaDoor.PPrimTells Go.Proofs.YtophddbbeechkaaDoorW Go.Proofs.YtophddbbeechkaaDoorW.Mine Go.Proofs.YtophddbbeechkaaDoorW.PrintWords Go.Proofs.YtophddbbeechkaaDoorW.PrintLast Go.Proofs.YtophddbbeechkaaDoorW.PrintMore
theorem wrap_in {i : Int} (h0 : -9223372036854775808 ≤ i) (h1 : i ≤ 9223372036854775807) : wrap64 i = i := by unfold wrap64; omega
theorem rd47_mem (l : List S47) (i : Nat) (h : i < l.length) : rd_T47 l (i : Int) ∈ l := by
  unfold rd_T47
  rw [Int.toNat_natCast, List.getD_eq_getElem?_getD, List.getElem?_eq_getElem h]
  exact List.getElem_mem h
theorem rd28_mem (l : List S28) (i : Nat) (h : i < l.length) : rd_T28 l (i : Int) ∈ l := by
  unfold rd_T28
  rw [Int.toNat_natCast, List.getD_eq_getElem?_getD, List.getElem?_eq_getElem h]
  exact List.getElem_mem h
/-- Much of a type is told. -/
def Told47 (x : S47) : Prop := ∃ r, Ev (fun k => limbecklaw04_Much.f k x.f0 x.f1 x.f2 x.f3 x.f4) r
theorem much_l1 (a0 a1 : Int) (a2 : ByteArray) (l3 : List ByteArray) (l4 : List S47) (hl : l4.length * 80 ≤ 140737488351232) (hs : ∀ y, y ∈ l4 → Told47 y) (d i : Nat) (hd : d + i = l4.length) (x3 : Int) :
    ∃ r, Ev (fun k => limbecklaw04_Much.l1 k x3 i a0 a1 a2 l3 l4) r := by
  induction d generalizing i x3 with
  | zero => exact ⟨_, Ev.step (fun _ => rfl) (Ev.neg (by omega) (Ev.rets rfl))⟩
  | succ d ih =>
    by_cases h : x3 < 3000
    · obtain ⟨t, ht⟩ := hs _ (rd47_mem l4 i (by omega))
      obtain ⟨r, hr⟩ := ih (i + 1) (by omega) (wrap64 (x3 + t))
      refine ⟨r, Ev.step (fun _ => rfl) (Ev.pos (by omega) (Ev.pos h (Ev.pos (by omega) (Ev.bind ht ?_))))⟩
      rw [wrap_in (show -9223372036854775808 ≤ (i : Int) + 1 by omega) (by omega)]
      exact hr
    · exact ⟨_, Ev.step (fun _ => rfl) (Ev.pos (by omega) (Ev.neg h (Ev.rets rfl)))⟩
theorem much_l0 (a0 a1 : Int) (a2 : ByteArray) (l3 : List ByteArray) (l4 : List S47) (hl : l4.length * 80 ≤ 140737488351232) (hs : ∀ y, y ∈ l4 → Told47 y) (d i : Nat) (hd : d + i = l3.length) (x3 : Int) :
    ∃ r, Ev (fun k => limbecklaw04_Much.l0 k x3 i a0 a1 a2 l3 l4) r := by
  have hj : ∀ x, ∃ r, Ev (fun k => limbecklaw04_Much.j1 k x a0 a1 a2 l3 l4) r := fun x => by
    obtain ⟨r, hr⟩ := much_l1 a0 a1 a2 l3 l4 hl hs l4.length 0 (by omega) x
    exact ⟨r, Ev.step (fun _ => rfl) hr⟩
  induction d generalizing i x3 with
  | zero =>
    obtain ⟨r, hr⟩ := hj x3
    exact ⟨r, Ev.step (fun _ => rfl) (Ev.neg (by omega) hr)⟩
  | succ d ih =>
    by_cases h : (i : Int) < 1000
    · obtain ⟨r, hr⟩ := ih (i + 1) (by omega) (wrap64 (x3 + (wrap64 (((rdOf ByteArray.empty l3 i).size : Int) / 8))))
      refine ⟨r, Ev.step (fun _ => rfl) (Ev.pos (by omega) (Ev.pos h (Ev.pos (by omega) ?_)))⟩
      rw [wrap_in (show -9223372036854775808 ≤ (i : Int) + 1 by omega) (by omega)]
      exact hr
    · obtain ⟨r, hr⟩ := hj x3
      exact ⟨r, Ev.step (fun _ => rfl) (Ev.pos (by omega) (Ev.neg h hr))⟩
theorem size47 : ∀ (x y : S47), y ∈ x.f4 → SizeOf.sizeOf y < SizeOf.sizeOf x
  | ⟨a0, a1, a2, a3, a4⟩, y, h => by
    have h2 : y ∈ a4 := h
    have h3 := List.sizeOf_lt_of_mem h2
    rw [S47.mk.sizeOf_spec]
    omega
theorem much_told : ∀ (n : Nat) (x : S47), SizeOf.sizeOf x < n → Ok47 x → Told47 x
  | 0, _, h, _ => absurd h (Nat.not_lt_zero _)
  | n + 1, x, h, ho => by
    obtain ⟨_, _, _, _, h4, hs⟩ := ho.parts
    obtain ⟨r, hr⟩ := much_l0 x.f0 x.f1 x.f2 x.f3 x.f4 h4 (fun y hy => much_told n y (by have := size47 x y hy; omega) (hs y hy)) x.f3.length 0 (by omega) (wrap64 ((wrap64 (1 + (wrap64 ((x.f2.size : Int) / 8)))) + (x.f3.length : Int)))
    exact ⟨r, Ev.step (fun _ => rfl) hr⟩
/-- Much of a value is told. -/
def Told28 (x : S28) : Prop := ∃ r, Ev (fun k => limbecklaw26_MuchVal.f k x.f0 x.f1 x.f2 x.f3 x.f4 x.f5.f0 x.f5.f1 x.f6 x.f7 x.f8) r
theorem val_l1 (a0 a1 a2 : Int) (a3 : Bool) (a4 a5 : ByteArray) (a6 : Int) (l7 : List S47) (l8 : List ByteArray) (l9 : List S28) (hl : l9.length * 144 ≤ 140737488351232) (hs : ∀ y, y ∈ l9 → Told28 y) (d i : Nat) (hd : d + i = l9.length) (x3 : Int) :
    ∃ r, Ev (fun k => limbecklaw26_MuchVal.l1 k x3 i a0 a1 a2 a3 a4 a5 a6 l7 l8 l9) r := by
  induction d generalizing i x3 with
  | zero => exact ⟨_, Ev.step (fun _ => rfl) (Ev.neg (by omega) (Ev.rets rfl))⟩
  | succ d ih =>
    by_cases h : x3 < 3000
    · obtain ⟨t, ht⟩ := hs _ (rd28_mem l9 i (by omega))
      obtain ⟨r, hr⟩ := ih (i + 1) (by omega) (wrap64 (x3 + t))
      refine ⟨r, Ev.step (fun _ => rfl) (Ev.pos (by omega) (Ev.pos h (Ev.pos (by omega) (Ev.bind ht ?_))))⟩
      rw [wrap_in (show -9223372036854775808 ≤ (i : Int) + 1 by omega) (by omega)]
      exact hr
    · exact ⟨_, Ev.step (fun _ => rfl) (Ev.pos (by omega) (Ev.neg h (Ev.rets rfl)))⟩
theorem val_l0 (a0 a1 a2 : Int) (a3 : Bool) (a4 a5 : ByteArray) (a6 : Int) (l7 : List S47) (l8 : List ByteArray) (l9 : List S28) (hl7 : l7.length * 80 ≤ 140737488351232) (ht7 : ∀ y, y ∈ l7 → Told47 y) (hl : l9.length * 144 ≤ 140737488351232) (hs : ∀ y, y ∈ l9 → Told28 y) (d i : Nat) (hd : d + i = l7.length) (x3 : Int) :
    ∃ r, Ev (fun k => limbecklaw26_MuchVal.l0 k x3 i a0 a1 a2 a3 a4 a5 a6 l7 l8 l9) r := by
  have hj : ∀ x, ∃ r, Ev (fun k => limbecklaw26_MuchVal.j1 k x a0 a1 a2 a3 a4 a5 a6 l7 l8 l9) r := fun x => by
    obtain ⟨r, hr⟩ := val_l1 a0 a1 a2 a3 a4 a5 a6 l7 l8 l9 hl hs l9.length 0 (by omega) x
    exact ⟨r, Ev.step (fun _ => rfl) hr⟩
  induction d generalizing i x3 with
  | zero =>
    obtain ⟨r, hr⟩ := hj x3
    exact ⟨r, Ev.step (fun _ => rfl) (Ev.neg (by omega) hr)⟩
  | succ d ih =>
    by_cases h : x3 < 3000
    · obtain ⟨t, ht⟩ := ht7 _ (rd47_mem l7 i (by omega))
      obtain ⟨r, hr⟩ := ih (i + 1) (by omega) (wrap64 (x3 + t))
      refine ⟨r, Ev.step (fun _ => rfl) (Ev.pos (by omega) (Ev.pos h (Ev.pos (by omega) (Ev.bind ht ?_))))⟩
      rw [wrap_in (show -9223372036854775808 ≤ (i : Int) + 1 by omega) (by omega)]
      exact hr
    · obtain ⟨r, hr⟩ := hj x3
      exact ⟨r, Ev.step (fun _ => rfl) (Ev.pos (by omega) (Ev.neg h hr))⟩
theorem size28 : ∀ (x y : S28), y ∈ x.f8 → SizeOf.sizeOf y < SizeOf.sizeOf x
  | ⟨a0, a1, a2, a3, a4, a5, a6, a7, a8⟩, y, h => by
    have h2 : y ∈ a8 := h
    have h3 := List.sizeOf_lt_of_mem h2
    rw [S28.mk.sizeOf_spec]
    omega
theorem val_told : ∀ (n : Nat) (x : S28), SizeOf.sizeOf x < n → Ok28 x → Told28 x
  | 0, _, h, _ => absurd h (Nat.not_lt_zero _)
  | n + 1, x, h, ho => by
    obtain ⟨_, _, _, _, _, _, ⟨h6, h6s⟩, _, h8, hs⟩ := ho.parts
    obtain ⟨r, hr⟩ := val_l0 x.f0 x.f1 x.f2 x.f3 x.f4 x.f5.f0 x.f5.f1 x.f6 x.f7 x.f8 h6 (fun y hy => much_told _ y (Nat.lt_succ_self _) (h6s y hy)) h8 (fun y hy => val_told n y (by have := size28 x y hy; omega) (hs y hy)) x.f6.length 0 (by omega) (wrap64 ((wrap64 ((wrap64 (1 + (wrap64 ((x.f4.size : Int) / 8)))) + (x.f7.length : Int))) + (wrap64 ((x.f5.f0.size : Int) / 8))))
    exact ⟨r, Ev.step (fun _ => rfl) hr⟩
theorem PrimTells : limbecklaw32_PrimTells.Pure := by
  intro x0 x1 x2 _ o1 o2
  obtain ⟨r1, e1⟩ := val_told _ x1 (Nat.lt_succ_self _) o1
  obtain ⟨r2, e2⟩ := val_told _ x2 (Nat.lt_succ_self _) o2
  have s1 := o1.parts.2.2.2.2.1
  have s2 := o2.parts.2.2.2.2.1
  exact (Ev.congr (fun _ => rfl) (Ev.bind e1 (Ev.bind e2 (Ev.pos (by omega) (Ev.rets rfl))))).rounds
end Go.Proofs.YtophddbbeechkaaDoor.Pure

/-
  prec: the plain law of cut, and of nodes.
-/
import Derived.Test.YtnfnhjhnfdkinaaPU1
import Derived.Test.YtnfnhjhnfdkinaaPPrecTellsx4
namespace Go.Proofs.Ytnfnhjhnfdkinaa.PPrecTells
open Go.RowKit Go.Proofs.YtnfnhjhnfdkinaaW.Mine Go.Proofs.YtnfnhjhnfdkinaaW.PrintWords Go.Proofs.YtnfnhjhnfdkinaaW.PrintLast Go.Proofs.YtnfnhjhnfdkinaaW.PrintMore
set_option linter.unusedVariables false
set_option linter.unusedSimpArgs false
mutual
def nodes : Ty → Nat
  | ⟨_, _, _, _, a4⟩ => nodesAll a4 + 1
def nodesAll : List Ty → Nat
  | [] => 0
  | a :: l => nodes a + nodesAll l
end
theorem nodes_eq (x : Ty) : nodes x = nodesAll x.f4 + 1 := by cases x; simp only [nodes]
theorem cutAll_none : ∀ (l : List Ty), cutAll l (-1) = (l, -1)
  | [] => by rw [cutAll_nil]
  | a :: l => by
    have h : cut a (-1) = (a, -1) := by rw [cut_eq, if_neg (by decide), if_pos (by decide)]
    rw [cutAll_cons, h, cutAll_none l]
mutual
theorem cut_count : ∀ (x : Ty) (k : Int), 0 ≤ k → (k < nodes x → (cut x k).2 = -1) ∧ ((nodes x : Int) ≤ k → (cut x k).2 = k - nodes x)
  | ⟨a0, a1, a2, a3, a4⟩, k, h0 => by
    have hn : nodes ⟨a0, a1, a2, a3, a4⟩ = nodesAll a4 + 1 := nodes_eq _
    rw [cut_eq]
    by_cases h1 : k = 0
    · rw [if_pos h1]
      exact ⟨fun _ => rfl, fun h => by omega⟩
    · rw [if_neg h1, if_neg (by omega)]
      have ih := cutAll_count a4 (k - 1) (by omega)
      exact ⟨fun h => ih.1 (by omega), fun h => by show (cutAll a4 (k - 1)).2 = _; rw [ih.2 (by omega)]; omega⟩
theorem cutAll_count : ∀ (l : List Ty) (k : Int), 0 ≤ k → (k < nodesAll l → (cutAll l k).2 = -1) ∧ ((nodesAll l : Int) ≤ k → (cutAll l k).2 = k - nodesAll l)
  | [], k, h0 => by
    rw [cutAll_nil]
    simp only [nodesAll]
    exact ⟨fun h => by omega, fun _ => by omega⟩
  | a :: l, k, h0 => by
    have ha := cut_count a k h0
    have hn : nodesAll (a :: l) = nodes a + nodesAll l := by simp only [nodesAll]
    rw [cutAll_cons]
    by_cases h1 : k < nodes a
    · rw [ha.1 h1, cutAll_none]
      exact ⟨fun _ => rfl, fun h => by omega⟩
    · rw [ha.2 (by omega)]
      have ih := cutAll_count l (k - nodes a) (by omega)
      exact ⟨fun h => ih.1 (by omega), fun h => by show (cutAll l (k - nodes a)).2 = _; rw [ih.2 (by omega)]; omega⟩
end
mutual
theorem less_cut : ∀ (x : Ty) (k : Int), less x (cut x k).1 = true
  | ⟨a0, a1, a2, a3, a4⟩, k => by
    rw [cut_eq]
    split
    · exact (less_iff _ _).2 (.inl rfl)
    · split
      · exact less_refl _
      · have h := lessAll_cut a4 (k - 1)
        exact (less_iff _ _).2 (.inr ⟨⟨rfl, rfl, rfl, rfl, lessAll_len h⟩, h⟩)
theorem lessAll_cut : ∀ (l : List Ty) (k : Int), lessAll l (cutAll l k).1 = true
  | [], k => by rw [cutAll_nil]; simp [lessAll]
  | a :: l, k => by
    rw [cutAll_cons]
    simp only [lessAll, less_cut a k, lessAll_cut l _, Bool.and_self]
end
theorem wrapn {i : Int} (h0 : -9223372036854775808 ≤ i) (h1 : i ≤ 9223372036854775807) : wrap64 i = i := by unfold wrap64; omega
theorem rdTy_at (l : List Ty) (i : Nat) (h : i < l.length) : rd_T25 l (i : Int) = l[i] := getD_at _ l i h
theorem len_nodes : ∀ (l : List Ty), l.length ≤ nodesAll l
  | [] => Nat.zero_le _
  | a :: l => by
    have := len_nodes l
    have h := nodes_eq a
    simp only [nodesAll, List.length_cons]
    omega
theorem rnodes_l (x : Ty) (hs : ∀ y, y ∈ x.f4 → nodes y ≤ 4611686018427387904 → Ev (fun k => limbeckref04_Nodes.f k y.f0 y.f1 y.f2 y.f3 y.f4) (nodes y : Int)) (d i : Nat) (hd : d + i = x.f4.length) (acc : Nat) (hb : acc + nodesAll (x.f4.drop i) ≤ 4611686018427387904) (hl : x.f4.length ≤ 4611686018427387904) :
    Ev (fun k => limbeckref04_Nodes.l0 k acc i x.f0 x.f1 x.f2 x.f3 x.f4) ((acc + nodesAll (x.f4.drop i) : Nat) : Int) := by
  induction d generalizing i acc with
  | zero =>
    rw [List.drop_eq_nil_of_le (by omega)]
    exact Ev.step (fun _ => rfl) (Ev.neg (by omega) (Ev.rets (by simp only [nodesAll]; rfl)))
  | succ d ih =>
    have hi : i < x.f4.length := by omega
    rw [List.drop_eq_getElem_cons hi] at hb ⊢
    simp only [nodesAll] at hb ⊢
    refine Ev.step (fun _ => rfl) (Ev.pos (by omega) (Ev.pos (by omega) ?_))
    rw [rdTy_at x.f4 i hi]
    refine Ev.bind (hs _ (List.getElem_mem hi) (by omega)) ?_
    rw [wrapn (show -9223372036854775808 ≤ (i : Int) + 1 by omega) (by omega), wrapn (show -9223372036854775808 ≤ (acc : Int) + (nodes x.f4[i] : Int) by omega) (by omega)]
    have := ih (i + 1) (by omega) (acc + nodes x.f4[i]) (by omega)
    rw [show acc + (nodes x.f4[i] + nodesAll (x.f4.drop (i + 1))) = acc + nodes x.f4[i] + nodesAll (x.f4.drop (i + 1)) by omega]
    exact this
theorem rnodes_f : ∀ (n : Nat) (x : Ty), SizeOf.sizeOf x < n → nodes x ≤ 4611686018427387904 → Ev (fun k => limbeckref04_Nodes.f k x.f0 x.f1 x.f2 x.f3 x.f4) (nodes x : Int)
  | 0, _, h, _ => absurd h (Nat.not_lt_zero _)
  | n + 1, x, h, hb => by
    rw [nodes_eq] at hb
    have hl := len_nodes x.f4
    have := rnodes_l x (fun y hy hy2 => rnodes_f n y (by have := size_args x y hy; omega) hy2) x.f4.length 0 (by omega) 1 (by rw [List.drop_zero]; omega) (by omega)
    rw [List.drop_zero] at this
    rw [nodes_eq, Nat.add_comm]
    exact Ev.step (fun _ => rfl) this
/-- What Cut answers (F4's word, said here too). -/
def cutO' (x : Ty) (k : Int) : Option Ty := if k < 0 then none else if 0 ≤ (cut x k).2 then none else some (cut x k).1
/-- In plain numbers. -/
theorem cutO_some {x u : Ty} {k : Int} (h : cutO' x k = some u) : 0 ≤ k ∧ k < nodes x ∧ less x u = true := by
  unfold cutO' at h
  by_cases h0 : k < 0
  · rw [if_pos h0] at h; cases h
  · rw [if_neg h0] at h
    by_cases h1 : 0 ≤ (cut x k).2
    · rw [if_pos h1] at h; cases h
    · rw [if_neg h1] at h
      obtain rfl := Option.some.inj h
      refine ⟨by omega, ?_, less_cut x k⟩
      by_cases h2 : k < nodes x
      · exact h2
      · have := (cut_count x k (by omega)).2 (by omega)
        omega
theorem cutO_none {x : Ty} {k : Int} (h0 : 0 ≤ k) (h : cutO' x k = none) : (nodes x : Int) ≤ k := by
  unfold cutO' at h
  rw [if_neg (by omega)] at h
  by_cases h2 : k < nodes x
  · have := (cut_count x k h0).1 h2
    rw [if_neg (by omega)] at h; cases h
  · omega
end Go.Proofs.Ytnfnhjhnfdkinaa.PPrecTells

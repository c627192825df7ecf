/-
  prec: the walk of slices.Clone at types; an element of an own row, stored anew.
-/
import Derived.Test.YtnfnhjhnfdkinaaF0
import Derived.Lib.SliceRun
namespace Go.Proofs.Ytnfnhjhnfdkinaa.PPrecTells
open Go.RowKit Go.Proofs.YtnfnhjhnfdkinaaW.Mine Go.Proofs.YtnfnhjhnfdkinaaW.PrintWords Go.Proofs.YtnfnhjhnfdkinaaW.PrintLast Go.Proofs.YtnfnhjhnfdkinaaW.PrintMore
attribute [local go_sem] max2_int min2_int max_two min_two max_three min_three max_four min_four
set_option linter.unusedVariables false
set_option linter.unusedSimpArgs false
theorem below_alloc2 (a : World) (o : Obj) : Below a.heap.size a (a.alloc o) := (Below.refl _ _).alloc (Nat.le_refl _) o
set_option maxHeartbeats 4000000 in
set_option maxRecDepth 100000 in
theorem clone_c (l : List Ty) (A : Option Addr) (c : Nat) (ok : Nat → Prop) (w : World) (hF : Kd.F kTy w ok A l.length l) (hc : l.length ≤ c) (hl : l.length * 80 ≤ 140737488351232) :
    Calls Try.prog 86 #[.slice A l.length c] w fun e w' => ∃ v, e = .returned v ∧ Kd.N kTy 25 w' w.heap.size (fun k => ok k ∨ w.heap.size ≤ k) v l ∧ Below w.heap.size w w' := by
  have q23 : ∀ (w : World) (a : Option Addr) (n c n' c' : Nat), (binOp .eql 23 (.slice a n c) (.slice none n' c')).run Try.prog w = .ok (.bool a.isNone) w := fun w a n c n' c' => Lib.run_eql_slice_nil w _ _ a n c n' c' Try.underlying23
  cases A with
  | none =>
    have hn : l = [] := by
      cases l with
      | nil => rfl
      | cons x l => exact absurd ((Kd.F_now hF).2.2 (by simp)) (by rintro ⟨ad, h, _⟩; cases h)
    subst hn
    go_enter Try.func86, Try.ntmps86
    go_wp2
    go_ret
    exact ⟨_, rfl, Kd.N_nil _ _ _ _ _, Below.refl _ _⟩
  | some ad =>
    have hb := Kd.F_bound hF
    go_enter Try.func86, Try.ntmps86
    go_wp2_with (first
      | ((with_reducible refine gate_dst (N := 5) rfl ?_); refine Kd.N_lit kTy (w0 := w) w.heap.size 25 ?hg (N' := 5) ?hd (xs := ([] : List Ty)) (inner := []) (ok := fun k => ok k ∨ w.heap.size ≤ k) (okp := fun k => ok k ∨ w.heap.size ≤ k) ?hr ?hp (fun _ hk => hk) (.inr (Nat.le_refl _)) (Below.refl _ _) (Nat.le_refl _) (by simp) ?_; (case hd => rfl); (case hg => rfl); (case hr => first | (go_simp; done) | (go_simp; rfl)); (case hp => exact (Reps.none _ _)); intro v1 w1 hN1 hB1 hg1 hat1; obtain ⟨A1, c1, rfl⟩ := Kd.N_slice hN1)
      | (at_builtin; refine Kd.N_append_rows kTy (w0 := w) w.heap.size rfl (.tmp 5) (.tmp 6) 23 25 (.agg #[(.int .i64 0), (.int .i64 0), (.string ⟨#[]⟩), (.slice none 0 0), (.slice none 0 0)]) 80 rfl Try.underlying23 info25 rfl (by decide) (by omega) (.slice A1 ([] : List Ty).length c1) [] l (some ad) l.length c (fun k => ok k ∨ w.heap.size ≤ k) (fun k => ok k ∧ k < w.heap.size) rfl rfl hN1 (Kd.F_below hb hB1) (fun k hk => ⟨.inl hk.1, fun he => by have := Kd.N_base hN1 k he.symm; have := hk.2; omega⟩) (fun k hk => .inr (by have := hB1.size; omega)) hB1 hB1.size (by simp; omega) ?_; intro v2 w2 hN2 hB2 hg2 hat2; obtain ⟨A2, c2, rfl⟩ := Kd.N_slice hN2; rw [List.nil_append] at hN2 ⊢))
    go_ret
    exact ⟨_, rfl, hN2, hB2⟩
/-- An element of an own row is stored anew. -/
theorem put_c {W : World} {base i g cap n : Nat} {ok okp : Nat → Prop} {l : List Ty} {x : Ty} {A3 A4 : Option Addr} {c3 c4 : Nat} (h : Kd.N kTy 25 W base ok (.slice (some ⟨g, 0, none⟩) n cap) l) (hi : i < n) (hx : FT W okp x A3 c3 A4 c4) (hokp : ∀ k, okp k → ok k ∧ k ≠ g) :
    Kd.N kTy 25 (W.setCells g (i * 5) (tcells x A3 c3 A4 c4)) base ok (.slice (some ⟨g, 0, none⟩) n cap) (l.set i x) ∧ W.grownBy (W.setCells g (i * 5) (tcells x A3 c3 A4 c4)) (some g) := by
  obtain ⟨c, hcl, _, hcc, _⟩ := Kd.N_elem h z25 (i : Int) (by omega) (by omega)
  obtain ⟨hown, rows, hl, hR, hf⟩ := h
  have heq : c.take 0 ++ tcells x A3 c3 A4 c4 ++ c.drop (0 + (tcells x A3 c3 A4 c4).length) = tcells x A3 c3 A4 c4 := by
    rw [List.drop_eq_nil_of_le (by rw [hcl]; exact Nat.le_refl 5)]; simp
  have h2 := Kd.R_seg (Kd.raw_any hR) (i : Int) (by omega) (by omega) (seg := tcells x A3 c3 A4 c4) (j := 0) (x' := tcells x A3 c3 A4 c4) (okp := fun _ => False) hcl hcc (Nat.le_refl 5) (heq.symm ▸ Kd.FK_raw hx.fk) (fun _ hk => hk.elim)
  have e : (i : Int).toNat * (Kd.raw kTy.sz).sz + 0 = i * 5 := by rw [Int.toNat_natCast]; rfl
  rw [e] at h2
  have h3 := Kd.N_written (x' := x) hown hl hf h2.1 h2.2 hx.fk hokp
  rw [Int.toNat_natCast] at h3
  exact ⟨h3, h2.2⟩
end Go.Proofs.Ytnfnhjhnfdkinaa.PPrecTells

/-
  env: the walks of slices.Clone at texts, Of, Close; what Seal answers, as a contract.
-/
import Derived.Test.YtalmhbiedkjpmaaE3
import Derived.Test.YtalmhbiedkjpmaaPEnvPlaysx6
import Derived.Test.YtalmhbiedkjpmaaPEnvPlaysx7
import Derived.Lib.SliceRun
namespace Go.Proofs.Ytalmhbiedkjpmaa.PEnvPlays
open Go.RowKit Go.Proofs.YtalmhbiedkjpmaaW.Mine Go.Proofs.YtalmhbiedkjpmaaW.PrintWords Go.Proofs.YtalmhbiedkjpmaaW.PrintLast Go.Proofs.YtalmhbiedkjpmaaW.PrintMore
attribute [local go_sem] max2_int min2_int max_two min_two max_three min_three max_four min_four
set_option linter.unusedVariables false
set_option linter.unusedSimpArgs false
theorem heapTy : Kd.Heap kTy := Kd.heap_fix (fun _ hd => Kd.heap_iso _ (Kd.heap_pair (Kd.heap_int .i64) (Kd.heap_pair (Kd.heap_int .i64) (Kd.heap_pair Kd.heap_string (Kd.heap_pair (Kd.heap_slice _ Kd.heap_string) (Kd.heap_slice _ hd))))))
theorem infoS : (Try.prog.info? 9).map (fun i => (i.zero, i.size, i.bytes)) = some (some (.string ⟨#[]⟩), 1, 16) := by kernel_rfl
set_option maxHeartbeats 4000000 in
set_option maxRecDepth 100000 in
theorem clone_c (l : List ByteArray) (A : Option Addr) (c : Nat) (w : World) (hC : Kd.string.C w A l.length l) (hc : l.length ≤ c) (hl : l.length * 16 ≤ 140737488351232) :
    Calls Try.prog 43 #[.slice A l.length c] w fun e w' => ∃ A' c', e = .returned (.slice A' l.length c') ∧ l.length ≤ c' ∧ Kd.string.C w' A' l.length l ∧ Below w.heap.size w w' := by
  have q23 : ∀ (w : World) (a : Option Addr) (n c n' c' : Nat), (binOp .eql 28 (.slice a n c) (.slice none n' c')).run Try.prog w = .ok (.bool a.isNone) w := fun w a n c n' c' => Lib.run_eql_slice_nil w _ _ a n c n' c' Try.underlying28
  have hF := Kd.C_F Kd.heap_string hC
  cases A with
  | none =>
    have hn : l = [] := by
      cases l with
      | nil => rfl
      | cons x l => exact absurd (hC.2.2 (by simp)) (by rintro ⟨ad, h, _⟩; cases h)
    subst hn
    clear hC hF
    go_enter Try.func43, Try.ntmps43
    go_wp2
    go_ret
    exact ⟨none, 0, rfl, Nat.le_refl _, Kd.C_nil _ _, Below.refl _ _⟩
  | some ad =>
    clear hC
    go_enter Try.func43, Try.ntmps43
    go_wp2_with (first
      | ((with_reducible refine gate_dst (N := 5) rfl ?_); refine Kd.N_lit Kd.string (w0 := w) w.heap.size 9 ?hg (N' := 5) ?hd (xs := ([] : List ByteArray)) (inner := []) (ok := fun k => k < w.heap.size ∨ w.heap.size ≤ k) (okp := fun k => k < w.heap.size ∨ w.heap.size ≤ k) ?hr ?hp (fun _ hk => hk) (.inr (Nat.le_refl _)) (Below.refl _ _) (Nat.le_refl _) (by simp) ?_; (case hd => rfl); (case hg => rfl); (case hr => first | (go_simp; done) | (go_simp; rfl)); (case hp => exact (Reps.none _ _)); intro v1 w1 hN1 hB1 hg1 hat1; obtain ⟨A1, c1, rfl⟩ := Kd.N_slice hN1)
      | (at_builtin; refine Kd.N_append_rows Kd.string (w0 := w) w.heap.size rfl (.tmp 5) (.tmp 6) 28 9 (.string ⟨#[]⟩) 16 rfl Try.underlying28 infoS rfl (by decide) (by omega) (.slice A1 ([] : List ByteArray).length c1) [] l (some ad) l.length c (fun k => k < w.heap.size ∨ w.heap.size ≤ k) (fun k => k < w.heap.size) rfl rfl hN1 (Kd.F_below hF hB1) (fun k hk => ⟨.inl hk, fun he => by have := Kd.N_base hN1 k he.symm; omega⟩) (fun k hk => .inr (by have := hB1.size; omega)) hB1 hB1.size (by simp; omega) ?_; intro v2 w2 hN2 hB2 hg2 hat2; obtain ⟨A2, c2, rfl⟩ := Kd.N_slice hN2; rw [List.nil_append] at hN2 ⊢))
    go_ret
    exact ⟨A2, c2, rfl, (Kd.N_reads' hN2).2.1, Kd.F_now (Kd.N_F hN2), hB2⟩
def OfOut (w : World) (names : List ByteArray) (from' : Int) (e : Ending) (w' : World) : Prop := ∃ tp q, e = .returned (.pointer q) ∧ IsEnv w' tp q [] ∧ IsTys w' tp names from' ∧ Below w.heap.size w w'
theorem OfOut.mk {w W : World} {names : List ByteArray} {from' : Int} {A : Option Addr} {c g g' : Nat} (hb : Below w.heap.size w W) (hl : names.length ≤ c) (hr : Kd.string.C W A names.length names) (hg : W.heap[g]? = some (.cells #[.slice A names.length c, .int .i64 from'] 86 (0, 0)))
    (hg' : W.heap[g']? = some (.cells (ecells ⟨#[]⟩ z52 none 0 none 0 none 0 0 none (some ⟨g, 0, none⟩)) 88 (0, 0))) : OfOut w names from' (.returned (.pointer (some ⟨g', 0, none⟩))) W :=
  ⟨some ⟨g, 0, none⟩, _, rfl, .inr ⟨g', rfl, hg'⟩, ⟨g, A, c, rfl, hg, hl, hr⟩, hb⟩
set_option maxRecDepth 100000 in
theorem of_c (names : List ByteArray) (from' : Int) (A : Option Addr) (c : Nat) (w : World) (hC : Kd.string.C w A names.length names) (hc : names.length ≤ c) (hl : names.length * 16 ≤ 140737488351232) :
    Calls Try.prog 24 #[.slice A names.length c, .int .i64 from'] w (OfOut w names from') := by
  go_enter Try.func24, Try.ntmps24
  go_wp2_with fail
  refine (clone_c names A c w hC hc hl).mono ?_
  rintro e w1 ⟨A1, c1, rfl, hl1, hr1, hb1⟩
  have b1 := below_alloc1 w1 (.cells #[.slice A1 names.length c1, .int .i64 from'] 86)
  have kt := blk_new w1 (.cells #[.slice A1 names.length c1, .int .i64 from'] 86)
  have b2 := below_alloc1 (w1.alloc (.cells #[.slice A1 names.length c1, .int .i64 from'] 86)) (.cells (ecells ⟨#[]⟩ z52 none 0 none 0 none 0 0 none (some ⟨w1.heap.size, 0, none⟩)) 88)
  have ke := blk_new (w1.alloc (.cells #[.slice A1 names.length c1, .int .i64 from'] 86)) (.cells (ecells ⟨#[]⟩ z52 none 0 none 0 none 0 0 none (some ⟨w1.heap.size, 0, none⟩)) 88)
  replace kt := blk_up b2 kt
  have BB := Aside0.mk (chain hb1 (chain b1 b2))
  have HR := Aside0.mk (Kd.C_below (Kd.C_below hr1 b1) b2)
  have KT := Aside0.mk kt
  have KE := Aside0.mk ke
  clear hr1 hb1 b1 b2 kt ke hC
  go_wp2
  go_ret
  have := KE.out
  rw [World.size_alloc] at this
  exact OfOut.mk BB.out hl1 HR.out KT.out this
/-- A type's lists, and in which blocks. -/
def FT (w : World) (ok : Nat → Prop) (x : Ty) (A3 : Option Addr) (c3 : Nat) (A4 : Option Addr) (c4 : Nat) : Prop := x.f3.length ≤ c3 ∧ Kd.F Kd.string w ok A3 x.f3.length x.f3 ∧ x.f4.length ≤ c4 ∧ Kd.F kTy w ok A4 x.f4.length x.f4
theorem FT.below {w w1 : World} {ok : Nat → Prop} {x : Ty} {A3 A4 : Option Addr} {c3 c4 : Nat} (h : FT w ok x A3 c3 A4 c4) (hb : Below w.heap.size w w1) : FT w1 ok x A3 c3 A4 c4 := ⟨h.1, Kd.F_below h.2.1 hb, h.2.2.1, Kd.F_below h.2.2.2 hb⟩
theorem FT.far {w : World} {ok : Nat → Prop} {x : Ty} {A3 A4 : Option Addr} {c3 c4 : Nat} (h : FT w ok x A3 c3 A4 c4) {p : Addr} (hk : ∀ k, ok k → k ≠ p.block) (u : Value) : FT (w.setCell p u) ok x A3 c3 A4 c4 := ⟨h.1, Kd.F_far h.2.1 hk u, h.2.2.1, Kd.F_far h.2.2.2 hk u⟩
theorem FT.rt {w : World} {ok : Nat → Prop} {x : Ty} {A3 A4 : Option Addr} {c3 c4 : Nat} (h : FT w ok x A3 c3 A4 c4) : RT w x A3 c3 A4 c4 := ⟨h.1, Kd.F_now h.2.1, h.2.2.1, Kd.F_now h.2.2.2⟩
theorem RT.ft {w : World} {x : Ty} {A3 A4 : Option Addr} {c3 c4 : Nat} (h : RT w x A3 c3 A4 c4) : FT w (fun k => k < w.heap.size) x A3 c3 A4 c4 := ⟨h.1, Kd.C_F Kd.heap_string h.2.1, h.2.2.1, Kd.C_F heapTy h.2.2.2⟩
/-- What Seal answers, as a contract. -/
theorem seal_c (t : Ty) (names : List ByteArray) (from' : Int) {k : Nat} {r1 r2 : Int} {r3 : ByteArray} {r4 : List ByteArray} {r5 : List Ty} (h : subst_Seal.f k t.f0 t.f1 t.f2 t.f3 t.f4 names from' = some (r1, r2, r3, r4, r5)) {ok : Nat → Prop} {A3 A4 A : Option Addr} {c3 c4 c : Nat} {w : World} (hr : FT w ok t A3 c3 A4 c4) (hC : Kd.string.C w A names.length names) (hc : names.length ≤ c) :
    Calls Try.prog 46 #[tv t A3 c3 A4 c4, .slice A names.length c, .int .i64 from'] w fun e w' => ∃ B3 d3 B4 d4, e = .returned (.agg #[.int .i64 r1, .int .i64 r2, .string r3, .slice B3 r4.length d3, .slice B4 r5.length d4]) ∧ FT w' (fun k => ok k ∨ w.heap.size ≤ k) ⟨r1, r2, r3, r4, r5⟩ B3 d3 B4 d4 ∧ Below w.heap.size w w' := by
  refine (subst_Seal.calls k t.f0 t.f1 t.f2 ok A3 c3 t.f3 ok A4 c4 t.f4 A c names from' r1 r2 r3 r4 r5 w (Kd.V_mk hr.1 hr.2.1) (Kd.V_mk hr.2.2.1 hr.2.2.2) hC hc h).mono ?_
  rintro e w' ⟨v3, v4, rfl, ⟨B3, d3, rfl, h3, f3⟩, ⟨B4, d4, rfl, h4, f4⟩, hb⟩
  exact ⟨B3, d3, B4, d4, rfl, ⟨h3, Kd.F_mono f3 (fun k hk => hk.elim (fun h => .inl (h.elim id id)) .inr), h4, Kd.F_mono f4 (fun k hk => hk.elim (fun h => .inl (h.elim id id)) .inr)⟩, hb⟩
end Go.Proofs.Ytalmhbiedkjpmaa.PEnvPlays

/-
  prim: boxes of values and the condition of the walks, through drawn regions.
-/
import Derived.Test.YtophddbbeechkaaDoorW5
import Derived.Deep.RegionHeld3
import Derived.Deep.MidRow
namespace Go.Proofs.YtophddbbeechkaaDoor.WB
open Go.RowKit Go.Proofs.YtophddbbeechkaaDoorW.PrintWords Go.Proofs.YtophddbbeechkaaDoorW.PrintLast Go.Proofs.YtophddbbeechkaaDoorW.PrintMore Go.Proofs.YtophddbbeechkaaDoorW.Mine Go.Proofs.YtophddbbeechkaaDoor.W1 Go.Proofs.YtophddbbeechkaaDoor.W2 Go.Proofs.YtophddbbeechkaaDoor.W3 Go.Proofs.YtophddbbeechkaaDoor.W5
set_option linter.unusedVariables false
abbrev cells (k n : Int) (s : ByteArray) : List Value := [.int .i64 k, .int .i64 n, .int .i64 0, .bool false, .string s, .string ⟨#[]⟩, .int .i64 0, .slice none 0 0, .slice none 0 0, .slice none 0 0]
theorem range_next {w w' : World} {g o : Nat} {c : Value} {cs : List Value} (h : w.rangeAt g o (c :: cs)) (hb : Below w.heap.size w w') : w'.rangeAt g o (c :: cs) := fun j v hv =>
  (hb.cell (p := ⟨g, o + j, none⟩) (World.block_lt_of_cell? w _ (h 0 c rfl) :)).trans (h j v hv)
theorem range_new (w : World) (k n : Int) (s : ByteArray) (t : TypeId) : (w.alloc (.cells (cells k n s).toArray t)).rangeAt w.heap.size 0 (cells k n s) := fun j v hv => by
  rw [World.cell?_alloc_at (w := w) (c := (cells k n s).toArray) (t := t) w.heap.size (0 + j) rfl, Nat.zero_add]
  simpa using hv
theorem range_at {w : World} {g j : Nat} {cs : List Value} {v : Value} (h : w.rangeAt g 0 cs) (hj : cs[j]? = some v) : w.cell? ⟨g, j, none⟩ = some v := by
  have := h j v hj
  rwa [Nat.zero_add] at this
theorem cell_next {a b : World} {p : Addr} {v : Value} (hb : Below a.heap.size a b) (h : a.cell? p = some v) : b.cell? p = some v := (hb.cell (World.block_lt_of_cell? a _ h)).trans h
theorem cell_alloc {a : World} {p : Addr} {v : Value} (h : a.cell? p = some v) (o : Obj) : (a.alloc o).cell? p = some v := cell_next ((Below.refl _ _).alloc (Nat.le_refl _) o) h
/-- The table lies, and the caller's own memory is as it was. -/
structure Fit (w a : World) : Prop where
  gw : GW a
  bel : Below w.heap.size w a
theorem Fit.start {w : World} (h : GW w) : Fit w w := ⟨h, Below.refl _ _⟩
theorem Fit.next {w a b : World} (h : Fit w a) (hb : Below a.heap.size a b) : Fit w b := ⟨h.gw.below hb, chain h.bel hb⟩
theorem Fit.alloc {w a : World} (h : Fit w a) (o : Obj) : Fit w (a.alloc o) := h.next ((Below.refl _ _).alloc (Nat.le_refl _) o)
theorem Fit.drew {w a : World} (h : Fit w a) : Fit w a.drew := h.next ((Below.refl _ _).drew)
theorem same_eq (k n n' : Int) (s s' : ByteArray) (hn : n = n') (hs : s = s') (w : World) : Calls Tryd.prog 12 #[vv k n s, vv k n' s'] w fun e w' => e = .returned (.bool true) ∧ Below w.heap.size w w' := by
  subst hn; subst hs
  exact same_c k n s w
abbrev E0 : ByteArray := ⟨#[]⟩
theorem cells_next {a b : World} {g : Nat} {k n : Int} {s : ByteArray} (hb : Below a.heap.size a b) (h : a.cell? ⟨g, 0, none⟩ = some (.int .i64 (k)) ∧ a.cell? ⟨g, 1, none⟩ = some (.int .i64 (n)) ∧ a.cell? ⟨g, 2, none⟩ = some (.int .i64 0) ∧ a.cell? ⟨g, 3, none⟩ = some (.bool false) ∧ a.cell? ⟨g, 4, none⟩ = some (.string (s)) ∧ a.cell? ⟨g, 5, none⟩ = some (.string ⟨#[]⟩) ∧ a.cell? ⟨g, 6, none⟩ = some (.int .i64 0) ∧ a.cell? ⟨g, 7, none⟩ = some (.slice none 0 0) ∧ a.cell? ⟨g, 8, none⟩ = some (.slice none 0 0) ∧ a.cell? ⟨g, 9, none⟩ = some (.slice none 0 0)) : b.cell? ⟨g, 0, none⟩ = some (.int .i64 (k)) ∧ b.cell? ⟨g, 1, none⟩ = some (.int .i64 (n)) ∧ b.cell? ⟨g, 2, none⟩ = some (.int .i64 0) ∧ b.cell? ⟨g, 3, none⟩ = some (.bool false) ∧ b.cell? ⟨g, 4, none⟩ = some (.string (s)) ∧ b.cell? ⟨g, 5, none⟩ = some (.string ⟨#[]⟩) ∧ b.cell? ⟨g, 6, none⟩ = some (.int .i64 0) ∧ b.cell? ⟨g, 7, none⟩ = some (.slice none 0 0) ∧ b.cell? ⟨g, 8, none⟩ = some (.slice none 0 0) ∧ b.cell? ⟨g, 9, none⟩ = some (.slice none 0 0) := by
  obtain ⟨h0, h1, h2, h3, h4, h5, h6, h7, h8, h9⟩ := h
  exact ⟨cell_next hb h0, cell_next hb h1, cell_next hb h2, cell_next hb h3, cell_next hb h4, cell_next hb h5, cell_next hb h6, cell_next hb h7, cell_next hb h8, cell_next hb h9⟩
theorem cells_new (w : World) (k n : Int) (s : ByteArray) (t : TypeId) : (w.alloc (.cells (cells k n s).toArray t)).cell? ⟨w.heap.size, 0, none⟩ = some (.int .i64 (k)) ∧ (w.alloc (.cells (cells k n s).toArray t)).cell? ⟨w.heap.size, 1, none⟩ = some (.int .i64 (n)) ∧ (w.alloc (.cells (cells k n s).toArray t)).cell? ⟨w.heap.size, 2, none⟩ = some (.int .i64 0) ∧ (w.alloc (.cells (cells k n s).toArray t)).cell? ⟨w.heap.size, 3, none⟩ = some (.bool false) ∧ (w.alloc (.cells (cells k n s).toArray t)).cell? ⟨w.heap.size, 4, none⟩ = some (.string (s)) ∧ (w.alloc (.cells (cells k n s).toArray t)).cell? ⟨w.heap.size, 5, none⟩ = some (.string ⟨#[]⟩) ∧ (w.alloc (.cells (cells k n s).toArray t)).cell? ⟨w.heap.size, 6, none⟩ = some (.int .i64 0) ∧ (w.alloc (.cells (cells k n s).toArray t)).cell? ⟨w.heap.size, 7, none⟩ = some (.slice none 0 0) ∧ (w.alloc (.cells (cells k n s).toArray t)).cell? ⟨w.heap.size, 8, none⟩ = some (.slice none 0 0) ∧ (w.alloc (.cells (cells k n s).toArray t)).cell? ⟨w.heap.size, 9, none⟩ = some (.slice none 0 0) := by
  have h := range_new w k n s t
  exact ⟨range_at h rfl, range_at h rfl, range_at h rfl, range_at h rfl, range_at h rfl, range_at h rfl, range_at h rfl, range_at h rfl, range_at h rfl, range_at h rfl⟩
/-- Four boxes hold their values. -/
def St (w : World) (gx : Nat) (kx nx : Int) (sx : ByteArray) (gy : Nat) (ky ny : Int) (sy : ByteArray) (gz : Nat) (kz nz : Int) (sz : ByteArray) (gu : Nat) (ku nu : Int) (su : ByteArray) (w' : World) : Prop :=
  Fit w w' ∧ (w'.cell? ⟨gx, 0, none⟩ = some (.int .i64 (kx)) ∧ w'.cell? ⟨gx, 1, none⟩ = some (.int .i64 (nx)) ∧ w'.cell? ⟨gx, 2, none⟩ = some (.int .i64 0) ∧ w'.cell? ⟨gx, 3, none⟩ = some (.bool false) ∧ w'.cell? ⟨gx, 4, none⟩ = some (.string (sx)) ∧ w'.cell? ⟨gx, 5, none⟩ = some (.string ⟨#[]⟩) ∧ w'.cell? ⟨gx, 6, none⟩ = some (.int .i64 0) ∧ w'.cell? ⟨gx, 7, none⟩ = some (.slice none 0 0) ∧ w'.cell? ⟨gx, 8, none⟩ = some (.slice none 0 0) ∧ w'.cell? ⟨gx, 9, none⟩ = some (.slice none 0 0)) ∧ (w'.cell? ⟨gy, 0, none⟩ = some (.int .i64 (ky)) ∧ w'.cell? ⟨gy, 1, none⟩ = some (.int .i64 (ny)) ∧ w'.cell? ⟨gy, 2, none⟩ = some (.int .i64 0) ∧ w'.cell? ⟨gy, 3, none⟩ = some (.bool false) ∧ w'.cell? ⟨gy, 4, none⟩ = some (.string (sy)) ∧ w'.cell? ⟨gy, 5, none⟩ = some (.string ⟨#[]⟩) ∧ w'.cell? ⟨gy, 6, none⟩ = some (.int .i64 0) ∧ w'.cell? ⟨gy, 7, none⟩ = some (.slice none 0 0) ∧ w'.cell? ⟨gy, 8, none⟩ = some (.slice none 0 0) ∧ w'.cell? ⟨gy, 9, none⟩ = some (.slice none 0 0)) ∧ (w'.cell? ⟨gz, 0, none⟩ = some (.int .i64 (kz)) ∧ w'.cell? ⟨gz, 1, none⟩ = some (.int .i64 (nz)) ∧ w'.cell? ⟨gz, 2, none⟩ = some (.int .i64 0) ∧ w'.cell? ⟨gz, 3, none⟩ = some (.bool false) ∧ w'.cell? ⟨gz, 4, none⟩ = some (.string (sz)) ∧ w'.cell? ⟨gz, 5, none⟩ = some (.string ⟨#[]⟩) ∧ w'.cell? ⟨gz, 6, none⟩ = some (.int .i64 0) ∧ w'.cell? ⟨gz, 7, none⟩ = some (.slice none 0 0) ∧ w'.cell? ⟨gz, 8, none⟩ = some (.slice none 0 0) ∧ w'.cell? ⟨gz, 9, none⟩ = some (.slice none 0 0)) ∧ (w'.cell? ⟨gu, 0, none⟩ = some (.int .i64 (ku)) ∧ w'.cell? ⟨gu, 1, none⟩ = some (.int .i64 (nu)) ∧ w'.cell? ⟨gu, 2, none⟩ = some (.int .i64 0) ∧ w'.cell? ⟨gu, 3, none⟩ = some (.bool false) ∧ w'.cell? ⟨gu, 4, none⟩ = some (.string (su)) ∧ w'.cell? ⟨gu, 5, none⟩ = some (.string ⟨#[]⟩) ∧ w'.cell? ⟨gu, 6, none⟩ = some (.int .i64 0) ∧ w'.cell? ⟨gu, 7, none⟩ = some (.slice none 0 0) ∧ w'.cell? ⟨gu, 8, none⟩ = some (.slice none 0 0) ∧ w'.cell? ⟨gu, 9, none⟩ = some (.slice none 0 0))
theorem St.next {w : World} {gx : Nat} {kx nx : Int} {sx : ByteArray} {gy : Nat} {ky ny : Int} {sy : ByteArray} {gz : Nat} {kz nz : Int} {sz : ByteArray} {gu : Nat} {ku nu : Int} {su : ByteArray} {a b : World}
    (hb : Below a.heap.size a b) (h : St w gx kx nx sx gy ky ny sy gz kz nz sz gu ku nu su a) : St w gx kx nx sx gy ky ny sy gz kz nz sz gu ku nu su b :=
  ⟨h.1.next hb, cells_next hb h.2.1, cells_next hb h.2.2.1, cells_next hb h.2.2.2.1, cells_next hb h.2.2.2.2⟩
theorem St.drew {w : World} {gx : Nat} {kx nx : Int} {sx : ByteArray} {gy : Nat} {ky ny : Int} {sy : ByteArray} {gz : Nat} {kz nz : Int} {sz : ByteArray} {gu : Nat} {ku nu : Int} {su : ByteArray} {a : World}
    (h : St w gx kx nx sx gy ky ny sy gz kz nz sz gu ku nu su a) : St w gx kx nx sx gy ky ny sy gz kz nz sz gu ku nu su a.drew := h.next (Below.refl _ _).drew
/-- What the three operations on numbers answer. -/
def ar (op a b : Int) : Int := if op = 1 then wrap64 (a + b) else if op = 2 then wrap64 (a - b) else wrap64 (a * b)
theorem two_ar (op a b : Int) (h : op = 1 ∨ op = 2 ∨ op = 3) (w : World) (hG : GW w) :
    Calls Tryd.prog 21 #[.int .i64 op, vv 1 a E0, vv 1 b E0] w fun e w' => e = .returned (vv 1 (ar op a b) E0) ∧ Below w.heap.size w w' := by
  rcases h with rfl | rfl | rfl
  · exact two_add 1 a 1 b _ _ _ _ _ _ _ _ _ _ _ _ _ _ _ _ w hG rfl rfl
  · exact two_sub 1 a 1 b _ _ _ _ _ _ _ _ _ _ _ _ _ _ _ _ w hG rfl rfl
  · exact two_mul 1 a 1 b _ _ _ _ _ _ _ _ _ _ _ _ _ _ _ _ w hG rfl rfl
/-- Less, and the same, as numbers. -/
def cmp (op a b : Int) : Int := if op = 6 then (if a < b then 1 else 0) else (if a = b then 1 else 0)
theorem two_cmp (op a b : Int) (h : op = 6 ∨ op = 7) (w : World) (hG : GW w) :
    Calls Tryd.prog 21 #[.int .i64 op, vv 1 a E0, vv 1 b E0] w fun e w' => e = .returned (vv 2 (cmp op a b) E0) ∧ Below w.heap.size w w' := by
  rcases h with rfl | rfl
  · by_cases hl : a < b
    · rw [show cmp 6 a b = 1 by unfold cmp; rw [if_pos rfl, if_pos hl]]
      exact two_less_true 1 a 1 b _ _ _ _ _ _ _ _ _ _ _ _ _ _ _ _ w hG rfl rfl hl
    · rw [show cmp 6 a b = 0 by unfold cmp; rw [if_pos rfl, if_neg hl]]
      exact two_less_false 1 a 1 b _ _ _ _ _ _ _ _ _ _ _ _ _ _ _ _ w hG rfl rfl hl
  · by_cases hl : a = b
    · rw [show cmp 7 a b = 1 by unfold cmp; rw [if_neg (by decide), if_pos hl]]
      exact two_same_true 1 a 1 b _ _ _ _ _ _ _ _ _ _ _ _ _ _ _ _ w hG rfl rfl hl
    · rw [show cmp 7 a b = 0 by unfold cmp; rw [if_neg (by decide), if_neg hl]]
      exact two_same_false 1 a 1 b _ _ _ _ _ _ _ _ _ _ _ _ _ _ _ _ w hG rfl rfl hl
theorem w64_mod (x : Int) : wrap64 x % 18446744073709551616 = x % 18446744073709551616 := by unfold wrap64; omega
theorem ar_add (a b : Int) : ar 1 a b = wrap64 (a + b) := rfl
theorem ar_sub (a b : Int) : ar 2 a b = wrap64 (a - b) := by unfold ar; rw [if_neg (by decide), if_pos rfl]
theorem ar_mul (a b : Int) : ar 3 a b = wrap64 (a * b) := by unfold ar; rw [if_neg (by decide), if_neg (by decide)]
theorem ar1 (a b : Int) : wrap64 (a + b) = ar 1 b a := by rw [ar_add, Int.add_comm]
theorem ar2 (a b : Int) (h0 : -9223372036854775808 ≤ a) (h1 : a ≤ 9223372036854775807) : ar 2 (wrap64 (a + b)) b = a := by rw [ar_sub]; unfold wrap64; omega
theorem ar3 (a b : Int) : ar 3 a b = ar 3 b a := by rw [ar_mul, ar_mul, Int.mul_comm]
theorem ar4 (a b c : Int) : ar 1 (wrap64 (a + b)) c = ar 1 a (ar 1 b c) := by
  rw [ar_add, ar_add, ar_add]
  apply w64_congr
  have := w64_mod (a + b)
  have := w64_mod (b + c)
  omega
theorem ar5 (a b c : Int) : ar 3 (wrap64 (a + b)) c = ar 1 (ar 3 a c) (ar 3 b c) := by
  rw [ar_add, ar_mul, ar_mul, ar_mul]
  apply w64_congr
  rw [Int.mul_emod, w64_mod, ← Int.mul_emod, Int.add_emod (wrap64 (a * c)), w64_mod, w64_mod, ← Int.add_emod, Int.add_mul]
theorem cmp1 (a b : Int) : wrap64 (wrap64 (cmp 6 a b + cmp 6 b a) + cmp 7 a b) = 1 := by
  have c6 : ∀ x y : Int, cmp 6 x y = if x < y then 1 else 0 := fun x y => by unfold cmp; rw [if_pos rfl]
  have c7 : ∀ x y : Int, cmp 7 x y = if x = y then 1 else 0 := fun x y => by unfold cmp; rw [if_neg (by decide)]
  rw [c6, c6, c7]
  unfold wrap64
  by_cases h1 : a < b
  · rw [if_pos h1, if_neg (by omega : ¬ b < a), if_neg (by omega : ¬ a = b)]; decide
  · by_cases h2 : b < a
    · rw [if_neg h1, if_pos h2, if_neg (by omega : ¬ a = b)]; decide
    · rw [if_neg h1, if_neg h2, if_pos (by omega : a = b)]; decide
theorem wrap_is (x : Int) : IntKind.i64.wrap x = wrap64 x := by
  first | rfl | (rw [IntKind.wrap_i64]; rfl) | (simp only [IntKind.wrap, IntKind.bits, IntKind.signed, wrap64]; rfl) | (rw [IntKind.wrap_i64]; unfold wrap64; omega)
theorem cmp2 (a b : Int) : IntKind.i64.wrap (IntKind.i64.wrap (cmp 6 a b + cmp 6 b a) + cmp 7 a b) = 1 := by
  rw [wrap_is, wrap_is, cmp1]
theorem field_k (k n : Int) (s : ByteArray) (w : World) : (Instr.field 28 (vv k n s) 1).run Tryd.prog w = .ok (.int .i64 n) w := by kernel_rfl
end Go.Proofs.YtophddbbeechkaaDoor.WB

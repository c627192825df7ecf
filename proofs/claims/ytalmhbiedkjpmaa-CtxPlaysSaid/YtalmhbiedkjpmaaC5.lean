/-
  ctx: names and types in a row of their own, and the walk of slices.Reverse over it.
-/
import Derived.Test.YtalmhbiedkjpmaaC4
namespace Go.Proofs.Ytalmhbiedkjpmaa.PCtxPlays
open Go.RowKit Go.Shelf Go.Proofs.YtalmhbiedkjpmaaW.Mine Go.Proofs.YtalmhbiedkjpmaaW.PrintWords Go.Proofs.YtalmhbiedkjpmaaW.PrintLast Go.Proofs.YtalmhbiedkjpmaaW.PrintMore
set_option linter.unusedVariables false
set_option linter.unusedSimpArgs false
def Ent.cells {w0 : World} (e : Ent w0) : List Value := [.string e.x.f0, .int .i64 e.x.f1.f0, .int .i64 e.x.f1.f1, .string e.x.f1.f2, .slice e.A3 e.x.f1.f3.length e.c3, .slice e.A4 e.x.f1.f4.length e.c4]
def flat {w0 : World} (xs : List (Ent w0)) : List Value := xs.flatMap Ent.cells
theorem flat_len {w0 : World} : ∀ (xs : List (Ent w0)), (flat xs).length = xs.length * 6
  | [] => rfl
  | x :: xs => by
    have h := flat_len xs
    unfold flat at h ⊢
    rw [List.flatMap_cons, List.length_append, h, List.length_cons]
    show 6 + _ = _
    omega
theorem flat_get {w0 : World} : ∀ (xs : List (Ent w0)) (r : List Value) (i k : Nat) (hi : i < xs.length) (hk : k < 6), (flat xs ++ r)[i * 6 + k]? = xs[i].cells[k]?
  | x :: xs, r, 0, k, hi, hk => by
    show ((x.cells ++ flat xs) ++ r)[0 * 6 + k]? = _
    rw [List.append_assoc, List.getElem?_append_left (by show 0 * 6 + k < 6; omega)]
    simp
  | x :: xs, r, i + 1, k, hi, hk => by
    show ((x.cells ++ flat xs) ++ r)[(i + 1) * 6 + k]? = _
    rw [List.append_assoc, List.getElem?_append_right (by show 6 ≤ _; omega), show (i + 1) * 6 + k - x.cells.length = i * 6 + k from by show (i + 1) * 6 + k - 6 = _; omega]
    rw [flat_get xs r i k (by simpa using hi) hk]
    simp
/-- The block g is a row of these elements, and whatever behind them. -/
def RowB {w0 : World} (W : World) (g : Nat) (xs : List (Ent w0)) (r : List Value) : Prop := W.heap[g]? = some (.cells (flat xs ++ r).toArray 33 (0, 0))
theorem RowB.at {w0 W : World} {g : Nat} {xs : List (Ent w0)} {r : List Value} (h : RowB W g xs r) (i : Nat) (hi : i < xs.length) :
    (W.cell? ⟨g, i * 6, none⟩ = some (.string xs[i].x.f0) ∧ W.cell? ⟨g, i * 6 + 1, none⟩ = some (.int .i64 xs[i].x.f1.f0) ∧ W.cell? ⟨g, i * 6 + 2, none⟩ = some (.int .i64 xs[i].x.f1.f1) ∧ W.cell? ⟨g, i * 6 + 3, none⟩ = some (.string xs[i].x.f1.f2) ∧ W.cell? ⟨g, i * 6 + 4, none⟩ = some (.slice xs[i].A3 xs[i].x.f1.f3.length xs[i].c3) ∧ W.cell? ⟨g, i * 6 + 5, none⟩ = some (.slice xs[i].A4 xs[i].x.f1.f4.length xs[i].c4)) ∧
    (W.frozen? ⟨g, i * 6, none⟩ = false ∧ W.frozen? ⟨g, i * 6 + 1, none⟩ = false ∧ W.frozen? ⟨g, i * 6 + 2, none⟩ = false ∧ W.frozen? ⟨g, i * 6 + 3, none⟩ = false ∧ W.frozen? ⟨g, i * 6 + 4, none⟩ = false ∧ W.frozen? ⟨g, i * 6 + 5, none⟩ = false) := by
  have q : ∀ k (hk : k < 6), W.cell? ⟨g, i * 6 + k, none⟩ = xs[i].cells[k]? := fun k hk => by
    rw [blk_cell h (i * 6 + k)]
    simpa using flat_get xs r i k hi hk
  exact ⟨⟨q 0 (by omega), q 1 (by omega), q 2 (by omega), q 3 (by omega), q 4 (by omega), q 5 (by omega)⟩, blk_frozen h _, blk_frozen h _, blk_frozen h _, blk_frozen h _, blk_frozen h _, blk_frozen h _⟩
theorem set6 {l : List Value} {o : Nat} (hl : o + 6 ≤ l.length) (v0 v1 v2 v3 v4 v5 : Value) : ((((((l.set o v0).set (o + 1) v1).set (o + 2) v2).set (o + 3) v3).set (o + 4) v4).set (o + 5) v5) = l.take o ++ [v0, v1, v2, v3, v4, v5] ++ l.drop (o + 6) := by
  apply List.ext_getElem?
  intro n
  simp only [List.getElem?_set, List.length_set, List.append_assoc]
  by_cases h : n < o
  · rw [List.getElem?_append_left (by simp; omega), List.getElem?_take_of_lt h]
    repeat rw [if_neg (by omega)]
  · rw [List.getElem?_append_right (by simp; omega)]
    have e : n - (l.take o).length = n - o := by simp; omega
    rw [e]
    by_cases h6 : n < o + 6
    · obtain ⟨k, rfl⟩ : ∃ k, n = o + k := ⟨n - o, by omega⟩
      have hk : k < 6 := by omega
      rw [show o + k - o = k by omega]
      match k, hk with
      | 0, _ => simp; omega
      | 1, _ => simp; omega
      | 2, _ => simp; omega
      | 3, _ => simp; omega
      | 4, _ => simp; omega
      | 5, _ => simp; omega
    · rw [List.getElem?_append_right (by simp; omega)]
      simp only [List.length_cons, List.length_nil, List.getElem?_drop]
      repeat rw [if_neg (by omega)]
      congr 1
      omega
theorem flat_set {w0 : World} (xs : List (Ent w0)) (r : List Value) (i : Nat) (hi : i < xs.length) (y : Ent w0) : flat (xs.set i y) ++ r = (flat xs ++ r).take (i * 6) ++ y.cells ++ (flat xs ++ r).drop (i * 6 + 6) := by
  induction xs generalizing i with
  | nil => cases hi
  | cons x xs ih =>
    cases i with
    | zero =>
      show (y.cells ++ flat xs) ++ r = ((x.cells ++ flat xs) ++ r).take 0 ++ y.cells ++ ((x.cells ++ flat xs) ++ r).drop (0 * 6 + 6)
      rw [List.append_assoc x.cells, show 0 * 6 + 6 = x.cells.length from rfl, List.drop_left]
      simp
    | succ i =>
      have h := ih i (by simpa using hi)
      show (x.cells ++ flat (xs.set i y)) ++ r = ((x.cells ++ flat xs) ++ r).take ((i + 1) * 6) ++ y.cells ++ ((x.cells ++ flat xs) ++ r).drop ((i + 1) * 6 + 6)
      rw [List.append_assoc, h, List.append_assoc x.cells, show (i + 1) * 6 = x.cells.length + i * 6 from by show _ = 6 + i * 6; omega, List.take_length_add_append, show x.cells.length + i * 6 + 6 = x.cells.length + (i * 6 + 6) by omega, List.drop_length_add_append]
      simp
theorem RowB.set {w0 W : World} {g : Nat} {xs : List (Ent w0)} {r : List Value} (h : RowB W g xs r) (i : Nat) (hi : i < xs.length) (y : Ent w0) :
    RowB ((((((W.setCell ⟨g, i * 6, none⟩ (.string y.x.f0)).setCell ⟨g, i * 6 + 1, none⟩ (.int .i64 y.x.f1.f0)).setCell ⟨g, i * 6 + 2, none⟩ (.int .i64 y.x.f1.f1)).setCell ⟨g, i * 6 + 3, none⟩ (.string y.x.f1.f2)).setCell ⟨g, i * 6 + 4, none⟩ (.slice y.A3 y.x.f1.f3.length y.c3)).setCell ⟨g, i * 6 + 5, none⟩ (.slice y.A4 y.x.f1.f4.length y.c4)) g (xs.set i y) r := by
  have k := blk_set (blk_set (blk_set (blk_set (blk_set (blk_set h (i * 6) (.string y.x.f0)) (i * 6 + 1) (.int .i64 y.x.f1.f0)) (i * 6 + 2) (.int .i64 y.x.f1.f1)) (i * 6 + 3) (.string y.x.f1.f2)) (i * 6 + 4) (.slice y.A3 y.x.f1.f3.length y.c3)) (i * 6 + 5) (.slice y.A4 y.x.f1.f4.length y.c4)
  unfold RowB
  rw [k]
  simp only [List.setIfInBounds_toArray]
  rw [set6 (by rw [List.length_append, flat_len]; omega), flat_set xs r i hi y]
  rfl
end Go.Proofs.Ytalmhbiedkjpmaa.PCtxPlays

/-
  ctx: the walk of Of.
-/
import Derived.Test.YtalmhbiedkjpmaaC1
namespace Go.Proofs.Ytalmhbiedkjpmaa.PCtxPlays
open Go.RowKit Go.Proofs.YtalmhbiedkjpmaaW.Mine Go.Proofs.YtalmhbiedkjpmaaW.PrintWords Go.Proofs.YtalmhbiedkjpmaaW.PrintLast Go.Proofs.YtalmhbiedkjpmaaW.PrintMore
attribute [local go_sem] max2_int min2_int max_two min_two max_three min_three max_four min_four
set_option linter.unusedVariables false
set_option linter.unusedSimpArgs false
/-- An element of a list of names and types. -/
theorem elt {w : World} {A : Option Addr} {l : List Bd} (h : kBd.C w A l.length l) (i : Nat) (hi : i < l.length) : ∃ ad X3 e3 X4 e4, A = some ad ∧ RT w l[i].f1 X3 e3 X4 e4 ∧
    w.cell? (ad.add (i * 6)) = some (.string l[i].f0) ∧ w.cell? ⟨(ad.add (i * 6)).block, (ad.add (i * 6)).off + 1, none⟩ = some (.int .i64 l[i].f1.f0) ∧ w.cell? ⟨(ad.add (i * 6)).block, (ad.add (i * 6)).off + 2, none⟩ = some (.int .i64 l[i].f1.f1) ∧
    w.cell? ⟨(ad.add (i * 6)).block, (ad.add (i * 6)).off + 3, none⟩ = some (.string l[i].f1.f2) ∧ w.cell? ⟨(ad.add (i * 6)).block, (ad.add (i * 6)).off + 4, none⟩ = some (.slice X3 l[i].f1.f3.length e3) ∧ w.cell? ⟨(ad.add (i * 6)).block, (ad.add (i * 6)).off + 5, none⟩ = some (.slice X4 l[i].f1.f4.length e4) := by
  obtain ⟨ad, X3, e3, X4, e4, e, h0, h1, h2, h3, h4, h5, g3, r3, g4, r4⟩ := at_T33 h (i : Int) (by omega) (by omega)
  have q : rd_T33 l (i : Int) = l[i] := getD_at _ l i hi
  rw [q] at h0 h1 h2 h3 h4 h5 g3 r3 g4 r4
  rw [Int.toNat_natCast] at h0 h1 h2 h3 h4 h5
  exact ⟨ad, X3, e3, X4, e4, e, ⟨g3, r3, g4, r4⟩, h0, h1, h2, h3, h4, h5⟩
theorem six {w : World} {g : Nat} {v0 v1 v2 v3 v4 v5 : Value} {t : TypeId} (h : w.heap[g]? = some (.cells #[v0, v1, v2, v3, v4, v5] t (0, 0))) :
    (w.cell? ⟨g, 0, none⟩ = some v0 ∧ w.cell? ⟨g, 1, none⟩ = some v1 ∧ w.cell? ⟨g, 2, none⟩ = some v2 ∧ w.cell? ⟨g, 3, none⟩ = some v3 ∧ w.cell? ⟨g, 4, none⟩ = some v4 ∧ w.cell? ⟨g, 5, none⟩ = some v5) ∧ g < w.heap.size :=
  ⟨⟨(blk_cell h 0).trans rfl, (blk_cell h 1).trans rfl, (blk_cell h 2).trans rfl, (blk_cell h 3).trans rfl, (blk_cell h 4).trans rfl, (blk_cell h 5).trans rfl⟩, (Array.getElem?_eq_some_iff.1 h).1⟩
def OfOut (w : World) (l : List Bd) (e : Ending) (w' : World) : Prop := ∃ q, e = .returned (.pointer q) ∧ IsCtx w' q l.reverse ∧ Below w.heap.size w w'
set_option maxHeartbeats 4000000 in
set_option maxRecDepth 100000 in
theorem of_c {w : World} {A : Option Addr} {c : Nat} (l : List Bd) (hl : kBd.C w A l.length l) (hn : l.length < 4611686018427387904) :
    Calls Try.prog 11 #[.slice A l.length c] w (OfOut w l) := by
  go_enter Try.func11, Try.ntmps11
  go_wp2_with fail
  go_loopg [3, 8] l.length (fun kq v3 v8 w' => ∃ (i : Nat) (q : Option Addr), v3 = .pointer q ∧ v8 = .int .i64 i ∧ kq + i = l.length ∧ IsCtx w' q (l.take i).reverse ∧ Below w.heap.size w w')
  case atStart => exact ⟨0, none, rfl, rfl, rfl, rfl, Below.refl _ _⟩
  case round =>
    obtain ⟨i, q, rfl, rfl, hk, hq, br⟩ := hrel
    by_cases hi : i < l.length
    · obtain ⟨k1, rfl⟩ : ∃ k1, gk = k1 + 1 := ⟨gk - 1, by omega⟩
      have ci : decide ((i : Int) < (l.length : Int)) = true := decide_eq_true (by omega)
      obtain ⟨ad, X3, e3, X4, e4, hA, fx, x0, x1, x2, x3, x4, x5⟩ := elt hl i hi
      subst hA
      replace x0 := cell_up br x0
      replace x1 := cell_up br x1
      replace x2 := cell_up br x2
      replace x3 := cell_up br x3
      replace x4 := cell_up br x4
      replace x5 := cell_up br x5
      have fr := fx.below br
      clear fx hl
      go_wp2_with fail
      have bX := below_alloc1 wr (.cells #[.string l[i].f0, .int .i64 l[i].f1.f0, .int .i64 l[i].f1.f1, .string l[i].f1.f2, .slice X3 l[i].f1.f3.length e3, .slice X4 l[i].f1.f4.length e4] 33)
      refine (with_c l[i].f0 l[i].f1 (hq.below bX) (fr.below bX) (by have := List.length_take_le i l; simp; omega)).mono ?_
      rintro e w5 ⟨q2, rfl, hc2, hb2⟩
      have br2 := chain br (chain bX hb2)
      clear x0 x1 x2 x3 x4 x5 fr hq br bX hb2
      go_wp2
      go_roundg k1
      case measure => omega
      case rel => exact ⟨i + 1, q2, rfl, (by first | rfl | (simp; done) | (push_cast; rfl)), by omega, by rw [List.take_succ_eq_append_getElem hi, List.reverse_append]; exact hc2, br2⟩
    · have cn : decide ((i : Int) < (l.length : Int)) = false := decide_eq_false (by omega)
      go_wp2
      go_ret
      have e : l.take i = l := List.take_of_length_le (by omega)
      rw [e] at hq
      exact ⟨q, rfl, hq, br⟩
end Go.Proofs.Ytalmhbiedkjpmaa.PCtxPlays

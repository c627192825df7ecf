/-
  ctx: the walk of slices.Reverse over names and types.
-/
import Derived.Test.YtalmhbiedkjpmaaC5
namespace Go.Proofs.Ytalmhbiedkjpmaa.PCtxPlays
open Go.RowKit Go.Shelf Go.Proofs.YtalmhbiedkjpmaaW.Mine Go.Proofs.YtalmhbiedkjpmaaW.PrintWords Go.Proofs.YtalmhbiedkjpmaaW.PrintLast Go.Proofs.YtalmhbiedkjpmaaW.PrintMore
attribute [local go_sem] max2_int min2_int max_two min_two max_three min_three max_four min_four
set_option linter.unusedVariables false
set_option linter.unusedSimpArgs false
/-- Behind it: the row turned round; all other blocks as they were. -/
def RevOut {w0 : World} (w : World) (g : Nat) (xs : List (Ent w0)) (r : List Value) (e : Ending) (w' : World) : Prop := e = .returned (.tuple #[]) ∧ RowB w' g xs.reverse r ∧ w.grownBy w' (some g)
/-- So far. -/
def Mid {α : Type} (xs ys : List α) (i : Nat) (j : Int) : Prop := ys.length = xs.length ∧ ((i : Int) + j + 1 = xs.length ∧ -1 ≤ j) ∧ ∀ k, ys[k]? = if k < i ∨ j < (k : Int) ∧ k < xs.length then xs[xs.length - 1 - k]? else xs[k]?
theorem Mid.start {α : Type} (xs : List α) : Mid xs xs 0 ((xs.length : Int) - 1) := ⟨rfl, ⟨by omega, by omega⟩, fun k => by rw [if_neg (by omega)]⟩
theorem Mid.done {α : Type} {xs ys : List α} {i : Nat} {j : Int} (h : Mid xs ys i j) (hij : j ≤ i) : ys = xs.reverse := by
  obtain ⟨h1, ⟨h2, h2'⟩, h3⟩ := h
  apply List.ext_getElem?
  intro k
  rw [h3]
  by_cases hk : k < xs.length
  · rw [List.getElem?_reverse hk]
    split
    · rfl
    · rw [show xs.length - 1 - k = k by omega]
  · rw [if_neg (by omega), List.getElem?_eq_none (by omega), List.getElem?_eq_none (by simp; omega)]
theorem Mid.step {α : Type} {xs ys : List α} {i j : Nat} (h : Mid xs ys i (j : Int)) (hij : i < j) (hi : i < ys.length) (hj : j < ys.length) : Mid xs ((ys.set i ys[j]).set j ys[i]) (i + 1) ((j : Int) - 1) := by
  obtain ⟨h1, ⟨h2, h2'⟩, h3⟩ := h
  refine ⟨by simp [h1], ⟨by omega, by omega⟩, fun k => ?_⟩
  have e1 : ys[i]? = xs[i]? := by rw [h3, if_neg (by omega)]
  have e2 : ys[j]? = xs[j]? := by rw [h3, if_neg (by omega)]
  rw [List.getElem?_set, List.getElem?_set]
  by_cases a : j = k
  · subst a
    rw [if_pos rfl, if_pos (by simpa using hj), ← List.getElem?_eq_getElem hi, e1, if_pos (by omega), show xs.length - 1 - j = i by omega]
  · rw [if_neg a]
    by_cases b : i = k
    · subst b
      rw [if_pos rfl, if_pos hi, ← List.getElem?_eq_getElem hj, e2, if_pos (by omega), show xs.length - 1 - i = j by omega]
    · rw [if_neg b, h3]
      by_cases c : k < i ∨ (j : Int) < k ∧ k < xs.length
      · rw [if_pos c, if_pos (by omega)]
      · rw [if_neg c, if_neg (by omega)]
theorem grown_drew {w W : World} {row : Option Nat} (h : w.grownBy W row) : w.grownBy W.drew row := ⟨h.os, h.tape, h.output, h.size, h.block⟩
theorem grown_set {w W : World} {g : Nat} (h : w.grownBy W (some g)) (o : Nat) (v : Value) : w.grownBy (W.setCell ⟨g, o, none⟩ v) (some g) :=
  ⟨h.os, h.tape, h.output, by simpa using h.size, fun i hi hne => (Below.heap_setCell W ⟨g, o, none⟩ v i (fun e => hne (by rw [e]))).trans (h.block i hi hne)⟩
set_option maxHeartbeats 4000000 in
set_option maxRecDepth 100000 in
theorem rev_c {w0 w : World} {g cap : Nat} {xs : List (Ent w0)} {r : List Value} (h : RowB w g xs r) (hn : xs.length < 4611686018427387904) :
    Calls Try.prog 41 #[.slice (some ⟨g, 0, none⟩) xs.length cap] w (RevOut w g xs r) := by
  have hn1 : IntKind.i64.wrap ((xs.length : Int) - 1) = (xs.length : Int) - 1 := IntWalk.i64_in _ (by omega)
  go_enter Try.func41, Try.ntmps41
  go_wp2_with fail
  go_loopg [2, 3] xs.length (fun kq v2 v3 w' => ∃ (i : Nat) (j : Int) (ys : List (Ent w0)), v2 = .int .i64 i ∧ v3 = .int .i64 j ∧ kq + i = xs.length ∧ Mid xs ys i j ∧ RowB w' g ys r ∧ w.grownBy w' (some g))
  case atStart => exact ⟨0, (xs.length : Int) - 1, xs, rfl, rfl, rfl, Mid.start xs, h, ⟨rfl, rfl, rfl, Nat.le_refl _, fun k _ _ => rfl⟩⟩
  case round =>
    obtain ⟨i, j, ys, rfl, rfl, hk, hm, hb, hg⟩ := hrel
    by_cases hi : (i : Int) < j
    · obtain ⟨j, rfl⟩ : ∃ m : Nat, j = m := ⟨j.toNat, by omega⟩
      obtain ⟨k1, rfl⟩ : ∃ k1, gk = k1 + 1 := ⟨gk - 1, by have := hm.2.1.1; omega⟩
      have hiy : i < ys.length := by have := hm.1; have := hm.2.1.1; omega
      have hjy : j < ys.length := by have := hm.1; have := hm.2.1.1; omega
      have hyl : ys.length = xs.length := hm.1
      have ci : decide (i < j) = true := decide_eq_true (by omega)
      obtain ⟨⟨x0, x1, x2, x3, x4, x5⟩, ⟨f0, f1, f2, f3, f4, f5⟩⟩ := hb.at i hiy
      obtain ⟨⟨y0, y1, y2, y3, y4, y5⟩, ⟨g0, g1, g2, g3, g4, g5⟩⟩ := hb.at j hjy
      have i0 : (0 : Int) ≤ (i : Int) := by omega
      have i1 : (i : Int) < (xs.length : Int) := by omega
      have j0 : (0 : Int) ≤ (j : Int) := by omega
      have j1 : (j : Int) < (xs.length : Int) := by omega
      have HM := Aside0.mk hm
      have HYL := Aside0.mk hyl
      have HK := Aside0.mk hk
      clear hm hyl hk h
      go_wp2_with fail
      go_region
      have hb2 := (hb.set i hiy ys[j]).set j (by simpa using hjy) ys[i]
      have hg2 := grown_set (grown_set (grown_set (grown_set (grown_set (grown_set (grown_set (grown_set (grown_set (grown_set (grown_set (grown_set hg (i * 6) (.string ys[j].x.f0)) (i * 6 + 1) (.int .i64 ys[j].x.f1.f0)) (i * 6 + 2) (.int .i64 ys[j].x.f1.f1)) (i * 6 + 3) (.string ys[j].x.f1.f2)) (i * 6 + 4) (.slice ys[j].A3 ys[j].x.f1.f3.length ys[j].c3)) (i * 6 + 5) (.slice ys[j].A4 ys[j].x.f1.f4.length ys[j].c4)) (j * 6) (.string ys[i].x.f0)) (j * 6 + 1) (.int .i64 ys[i].x.f1.f0)) (j * 6 + 2) (.int .i64 ys[i].x.f1.f1)) (j * 6 + 3) (.string ys[i].x.f1.f2)) (j * 6 + 4) (.slice ys[i].A3 ys[i].x.f1.f3.length ys[i].c3)) (j * 6 + 5) (.slice ys[i].A4 ys[i].x.f1.f4.length ys[i].c4)
      generalize World.setCell (World.setCell _ _ _) ⟨g, j * 6 + 5, none⟩ _ = X at hb2 hg2 ⊢
      clear x0 x1 x2 x3 x4 x5 f0 f1 f2 f3 f4 f5 y0 y1 y2 y3 y4 y5 g0 g1 g2 g3 g4 g5 hb hg
      have HB := Aside0.mk hb2
      clear hb2
      have w1 : IntKind.i64.wrap ((i : Int) + 1) = (i : Int) + 1 := IntWalk.i64_in _ (by omega)
      have w2 : IntKind.i64.wrap ((j : Int) - 1) = (j : Int) - 1 := IntWalk.i64_in _ (by omega)
      go_wp2
      go_roundg k1
      case measure => omega
      case rel => exact ⟨i + 1, (j : Int) - 1, _, rfl, rfl, by have := HK.out; omega, HM.out.step (by omega) hiy hjy, blk_drew HB.out, grown_drew hg2⟩
    · have hd := hm.done (by omega)
      have cj : decide ((i : Int) < j) = false := decide_eq_false hi
      clear hm
      go_wp2
      refine bodyPost_ret (results_none rfl _ _ _) rfl ?_
      subst hd
      exact ⟨rfl, hb, hg⟩
end Go.Proofs.Ytalmhbiedkjpmaa.PCtxPlays

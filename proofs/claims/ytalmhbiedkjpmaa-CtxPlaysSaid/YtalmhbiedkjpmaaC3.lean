/-
  ctx: the iterator over a context, from the last name on, and the walk of Find.
-/
import Derived.RangeFuncNested
import Derived.RangeFuncBound
import Derived.RangeFuncCalls
import Derived.RangeFuncLeaves
import Derived.Shelf.Abstract
import Derived.Shelf.RegionOpen
import Derived.WalkKit
import Derived.OwnWalkIn
import Derived.TacticsInMore
import Derived.LoopNIn
import Derived.LoopIn
import Derived.Test.YtalmhbiedkjpmaaC2
namespace Go.Proofs.Ytalmhbiedkjpmaa.PCtxPlays
open Go.RowKit Go.Shelf Go.Proofs.YtalmhbiedkjpmaaW.Mine Go.Proofs.YtalmhbiedkjpmaaW.PrintWords Go.Proofs.YtalmhbiedkjpmaaW.PrintLast Go.Proofs.YtalmhbiedkjpmaaW.PrintMore
attribute [local go_sem] Oper.semAt_some
set_option linter.unusedVariables false
set_option linter.unusedSimpArgs false
/-- A name and a type with where its lists lie, read off world w0. -/
structure Ent (w0 : World) where
  x : Bd
  A3 : Option Addr
  c3 : Nat
  A4 : Option Addr
  c4 : Nat
  h : RT w0 x.f1 A3 c3 A4 c4
def Ent.val {w0 : World} (e : Ent w0) : Value := .agg #[.string e.x.f0, .int .i64 e.x.f1.f0, .int .i64 e.x.f1.f1, .string e.x.f1.f2, .slice e.A3 e.x.f1.f3.length e.c3, .slice e.A4 e.x.f1.f4.length e.c4]
def IsE (w0 : World) : Option Addr → List (Ent w0) → Prop
  | p, [] => p = none
  | p, e :: l => ∃ b q, p = some ⟨b, 0, none⟩ ∧ w0.heap[b]? = some (.cells (ccells e.x e.A3 e.c3 e.A4 e.c4 q ((l.length + 1 : Nat) : Int)) 75 (0, 0)) ∧ IsE w0 q l
theorem IsCtx.ents {w0 : World} : ∀ {p : Option Addr} {l : List Bd}, IsCtx w0 p l → ∃ es : List (Ent w0), es.map (·.x) = l ∧ IsE w0 p es
  | _, [], h => ⟨[], rfl, h⟩
  | _, x :: l, ⟨b, q, A3, c3, A4, c4, e, hc, hr, ht⟩ => by
    obtain ⟨es, he, hq⟩ := ht.ents
    subst he
    exact ⟨⟨x, A3, c3, A4, c4, hr⟩ :: es, rfl, b, q, e, by simpa using hc, hq⟩
/-- How many are still to come, read off world w0. -/
def leftC (w0 : World) : Value → Nat
  | .pointer (some a) => match w0.cell? ⟨a.block, 7, none⟩ with
    | some (.int _ n) => n.toNat
    | _ => 0
  | _ => 0
theorem left_eq {w0 : World} {p : Option Addr} {es : List (Ent w0)} (h : IsE w0 p es) : leftC w0 (.pointer p) = es.length := by
  cases es with
  | nil => obtain rfl : p = none := h; rfl
  | cons e l =>
    obtain ⟨b, q, rfl, hc, _⟩ := h
    have h7 := (eight hc).1.2.2.2.2.2.2.2
    simp only [leftC, h7, Int.toNat_natCast, List.length_cons]
theorem cell_new_l (W : World) (v : Value) (t : TypeId) : (W.alloc (.cells #[v] t)).cell? ⟨W.heap.size, 0, none⟩ = some v := (blk_cell (blk_new W (.cells #[v] t)) 0).trans rfl
set_option maxRecDepth 100000 in
set_option maxHeartbeats 4000000 in
theorem last1_in (n : Nat) (hn : 1 ≤ n) (w0 : World) (l Bn : Nat) (p0 : Option Addr) (xs : List (Ent w0)) (hpos : (xs.length : Int) ≤ 9223372036854775807) (J Jx : List (Ent w0) → World → Prop)
    (hY : ∀ pre x W, J pre W → pre.length < xs.length → YieldAt Fence.wide (n - 1) Try.prog l #[x.val] W fun e W' =>
      (e = .returned (.bool true) ∧ J (pre ++ [x]) W' ∧ Below w0.heap.size W W') ∨ (e = .returned (.bool false) ∧ Jx (pre ++ [x]) W'))
    (W : World) (hW : Below w0.heap.size w0 W) (hBn : W.cell? ⟨Bn, 0, none⟩ = some (.pointer p0)) (hL : IsE w0 p0 xs) (h0 : J [] W) :
    CallsIn Fence.wide n Try.prog 48 #[.func (.yield l) #[] #[], .pointer (some ⟨Bn, 0, none⟩)] W fun e W' => (∃ v, e = .returned v) ∧
      ((∃ ys, ys = xs ∧ J ys W') ∨ (∃ pre, pre <+: xs ∧ Jx pre W')) := by
  refine callsIn_of_wp Try.func48 rfl trivial ?_ rfl
  simp only [Try.ntmps48, List.size_toArray, List.length_cons, List.length_nil, Nat.reduceAdd, Nat.reduceSub, Array.replicate_succ, Array.replicate_zero, List.push_toArray, List.append_toArray, List.nil_append, List.cons_append]
  gi_wp2
  gi_loopw [3] (fun p wr => ∃ (pre rest : List (Ent w0)) (q : Option Addr), p = .pointer q ∧ xs = pre ++ rest ∧ IsE w0 q rest ∧ Below w0.heap.size w0 wr ∧ J pre wr)
    (fun p wr => leftC w0 p)
  case atStart => exact ⟨[], xs, p0, rfl, rfl, hL, hW, h0⟩
  case round =>
    obtain ⟨pre, rest, q, rfl, hx, hl, hb, hJs⟩ := hrel
    have hl' := hl
    cases rest with
    | nil =>
      obtain rfl : q = none := hl
      clear hL
      gi_wp2
      go_end0
      exact ⟨⟨_, rfl⟩, .inl ⟨pre, by simp [hx], hJs⟩⟩
    | cons x rest =>
      obtain ⟨b, q', rfl, hc, hr⟩ := hl
      have hc2 := (hb.block b (Array.getElem?_eq_some_iff.1 hc).1).trans hc
      obtain ⟨⟨c0, c1, c2, c3, c4, c5, c6, c7⟩, lb⟩ := eight hc2
      obtain ⟨fn, tmps, assign, body, hy, hR⟩ := hY pre x wr hJs (by rw [hx]; simp)
      simp only [Ent.val] at hy
      have hlen : decide ((0 : Int) < ((rest.length + 1 : Nat) : Int)) = true := decide_eq_true (by omega)
      clear hc hc2
      have HX := Aside0.mk hx
      clear hx
      gi_wp2
      refine hR.mono ?_
      rintro e W3 (⟨rfl, hJ3, hk3⟩ | ⟨rfl, hJx3⟩)
      · have hc3 : W3.cell? ⟨b, 6, none⟩ = some (.pointer q') := by
          obtain ⟨b', q'', e', hc', _⟩ := hl'
          obtain rfl : b = b' := by simpa using congrArg (fun p => (p.map Addr.block)) e'
          have h3 := ((hb.trans hk3).block b (Array.getElem?_eq_some_iff.1 hc').1).trans hc'
          have h2 := ((hb).block b (Array.getElem?_eq_some_iff.1 hc').1).trans hc'
          have e6 := (eight h2).1.2.2.2.2.2.2.1
          rw [c6] at e6
          rw [(eight h3).1.2.2.2.2.2.2.1]
          exact e6.symm
        gi_wp2
        go_roundw
        case rel => exact ⟨pre ++ [x], rest, q', rfl, by simp [HX.out], hr, hb.trans hk3, hJ3⟩
        case measure =>
          show leftC w0 (.pointer q') < leftC w0 (.pointer (some ⟨b, 0, none⟩))
          rw [left_eq hr, left_eq hl']; simp
      · gi_wp2
        refine bodyPost_ret (results_none rfl _ _ _) rfl ?_
        exact ⟨⟨_, rfl⟩, .inr ⟨pre ++ [x], ⟨rest, by simp [HX.out]⟩, hJx3⟩⟩
theorem last_c (p : Option Addr) (w : World) : Calls Try.prog 38 #[.pointer p] w fun e w' => e = .returned (.func (.func 48) #[] #[.pointer (some ⟨w.heap.size, 0, none⟩)]) ∧ w' = w.alloc (.cells #[.pointer p] 25) := by
  go_enter Try.func38, Try.ntmps38
  go_wp2
  go_ret
  exact ⟨rfl, rfl⟩
theorem last_stops (n : Nat) (hn : 1 ≤ n) {w0 : World} {p : Option Addr} {xs : List (Ent w0)} (hpos : (xs.length : Int) ≤ 9223372036854775807) (hL : IsE w0 p xs) (w : World) (Bn : Nat) (hB : Below w0.heap.size w0 w) (hBn : Bn < w.heap.size) (hc : w.cell? ⟨Bn, 0, none⟩ = some (.pointer p)) :
    SeqStopsK Fence.wide n Try.prog 48 #[.pointer (some ⟨Bn, 0, none⟩)] (fun e : Ent w0 => #[e.val]) (Below w0.heap.size) (fun ys => ys = xs) (fun pre => pre <+: xs) xs.length w := fun l J Jx W hW _ _ hY h0 =>
  last1_in n hn w0 l Bn p xs hpos J Jx hY W (hB.trans (hW.mono hB.size)) ((hW.cell (p := ⟨Bn, 0, none⟩) hBn).trans hc) hL h0
end Go.Proofs.Ytalmhbiedkjpmaa.PCtxPlays

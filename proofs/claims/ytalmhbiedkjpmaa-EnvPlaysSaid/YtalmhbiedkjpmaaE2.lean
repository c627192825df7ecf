/-
  env: the iterator over an environment, from the last name on, and the walk of Find.
-/
import Derived.RangeFuncNested
import Derived.RangeFuncBound
import Derived.RangeFuncCalls
import Derived.RangeFuncLeaves
import Derived.Shelf.Abstract
import Derived.Shelf.RegionOpen
import Derived.WalkKit
import Derived.OwnWalkIn
import Derived.TacticsInMore
import Derived.LoopNIn
import Derived.LoopIn
import Derived.Test.YtalmhbiedkjpmaaE1
namespace Go.Proofs.Ytalmhbiedkjpmaa.PEnvPlays
open Go.RowKit Go.Shelf Go.Proofs.YtalmhbiedkjpmaaW.Mine Go.Proofs.YtalmhbiedkjpmaaW.PrintWords Go.Proofs.YtalmhbiedkjpmaaW.PrintLast Go.Proofs.YtalmhbiedkjpmaaW.PrintMore
attribute [local go_sem] Oper.semAt_some
set_option linter.unusedVariables false
set_option linter.unusedSimpArgs false
/-- A name and a value in an environment, read off world w0. -/
structure Ent (w0 : World) (tp : Option Addr) where
  x : Sl
  b : Nat
  A6 : Option Addr
  c6 : Nat
  A7 : Option Addr
  c7 : Nat
  A8 : Option Addr
  c8 : Nat
  n : Int
  q : Option Addr
  blk : w0.heap[b]? = some (.cells (ecells x.f0 x.f1 A6 c6 A7 c7 A8 c8 n q tp) 88 (0, 0))
  h : RV w0 x.f1 A6 c6 A7 c7 A8 c8
def Ent.val {w0 : World} {tp : Option Addr} (e : Ent w0 tp) : Value := .pointer (some ⟨e.b, 0, none⟩)
def IsE (w0 : World) (tp : Option Addr) : Option Addr → List (Ent w0 tp) → Prop
  | p, [] => IsEnv w0 tp p []
  | p, e :: l => p = some ⟨e.b, 0, none⟩ ∧ e.n = ((l.length + 1 : Nat) : Int) ∧ IsE w0 tp e.q l
theorem IsEnv.ents {w0 : World} {tp : Option Addr} : ∀ {p : Option Addr} {l : List Sl}, IsEnv w0 tp p l → ∃ es : List (Ent w0 tp), es.map (·.x) = l ∧ IsE w0 tp p es
  | _, [], h => ⟨[], rfl, h⟩
  | _, x :: l, ⟨b, q, A6, c6, A7, c7, A8, c8, e, hc, hr, ht⟩ => by
    obtain ⟨es, he, hq⟩ := ht.ents
    subst he
    exact ⟨⟨x, b, A6, c6, A7, c7, A8, c8, _, q, hc, hr⟩ :: es, rfl, e, by simp, hq⟩
theorem IsE.env {w0 : World} {tp : Option Addr} : ∀ {p : Option Addr} {es : List (Ent w0 tp)}, IsE w0 tp p es → IsEnv w0 tp p (es.map (·.x))
  | _, [], h => h
  | _, e :: l, ⟨hp, hn, ht⟩ => ⟨e.b, e.q, e.A6, e.c6, e.A7, e.c7, e.A8, e.c8, hp, by rw [e.blk, hn, List.length_map], e.h, ht.env⟩
/-- How many are still to come, read off world w0. -/
def leftC (w0 : World) : Value → Nat
  | .pointer (some a) => match w0.cell? ⟨a.block, 11, none⟩ with
    | some (.int _ n) => n.toNat
    | _ => 0
  | _ => 0
theorem left_eq {w0 : World} {tp p : Option Addr} {es : List (Ent w0 tp)} (h : IsE w0 tp p es) : leftC w0 (.pointer p) = es.length := by
  cases es with
  | nil =>
    rcases h with ⟨rfl, _⟩ | ⟨b, rfl, hc⟩
    · rfl
    · have h7 := (fourteen hc).1.2.2.2.2.2.2.2.2.2.2.2.1
      simp only [leftC, h7]; rfl
  | cons e l =>
    obtain ⟨rfl, hn, _⟩ := h
    have h7 := (fourteen e.blk).1.2.2.2.2.2.2.2.2.2.2.2.1
    simp only [leftC, h7, hn, Int.toNat_natCast, List.length_cons]
theorem cell_new_l (W : World) (v : Value) (t : TypeId) : (W.alloc (.cells #[v] t)).cell? ⟨W.heap.size, 0, none⟩ = some v := (blk_cell (blk_new W (.cells #[v] t)) 0).trans rfl
set_option maxRecDepth 100000 in
set_option maxHeartbeats 4000000 in
theorem last1_in (n : Nat) (hn : 1 ≤ n) (w0 : World) (tp : Option Addr) (l Bn : Nat) (p0 : Option Addr) (xs : List (Ent w0 tp)) (hpos : (xs.length : Int) ≤ 9223372036854775807) (J Jx : List (Ent w0 tp) → World → Prop)
    (hY : ∀ pre x W, J pre W → pre.length < xs.length → YieldAt Fence.wide (n - 1) Try.prog l #[x.val] W fun e W' =>
      (e = .returned (.bool true) ∧ J (pre ++ [x]) W' ∧ Below w0.heap.size W W') ∨ (e = .returned (.bool false) ∧ Jx (pre ++ [x]) W'))
    (W : World) (hW : Below w0.heap.size w0 W) (hBn : W.cell? ⟨Bn, 0, none⟩ = some (.pointer p0)) (hL : IsE w0 tp p0 xs) (h0 : J [] W) :
    CallsIn Fence.wide n Try.prog 50 #[.func (.yield l) #[] #[], .pointer (some ⟨Bn, 0, none⟩)] W fun e W' => (∃ v, e = .returned v) ∧
      ((∃ ys, ys = xs ∧ J ys W') ∨ (∃ pre, pre <+: xs ∧ Jx pre W')) := by
  refine callsIn_of_wp Try.func50 rfl trivial ?_ rfl
  simp only [Try.ntmps50, List.size_toArray, List.length_cons, List.length_nil, Nat.reduceAdd, Nat.reduceSub, Array.replicate_succ, Array.replicate_zero, List.push_toArray, List.append_toArray, List.nil_append, List.cons_append]
  gi_wp2
  gi_loopw [3] (fun p wr => ∃ (pre rest : List (Ent w0 tp)) (q : Option Addr), p = .pointer q ∧ xs = pre ++ rest ∧ IsE w0 tp q rest ∧ Below w0.heap.size w0 wr ∧ J pre wr)
    (fun p wr => leftC w0 p)
  case atStart => exact ⟨[], xs, p0, rfl, rfl, hL, hW, h0⟩
  case round =>
    obtain ⟨pre, rest, q, rfl, hx, hl, hb, hJs⟩ := hrel
    have hl' := hl
    have hE := hl.env.below hb
    cases rest with
    | nil =>
      have HX := Aside0.mk hx
      clear hL hl hl' hx
      gi_wp2_with (refine ⟨trivial, ?_⟩; gi_at_call 28; refine (callsIn_wide.2 (len_c hE)).mono ?_; rintro e w' ⟨rfl, rfl⟩)
      go_end0
      exact ⟨⟨_, rfl⟩, .inl ⟨pre, by simp [HX.out], hJs⟩⟩
    | cons x rest =>
      obtain ⟨rfl, hn', hr⟩ := hl
      have hc2 := (hb.block x.b (Array.getElem?_eq_some_iff.1 x.blk).1).trans x.blk
      obtain ⟨⟨c0, c1, c2, c3, c4, c5, c6, c7, c8, c9, c10, c11, c12, c13⟩, lb⟩ := fourteen hc2
      obtain ⟨fn, tmps, assign, body, hy, hR⟩ := hY pre x wr hJs (by rw [hx]; simp)
      simp only [Ent.val] at hy
      have hlen : decide ((0 : Int) < (((x :: rest).map (·.x)).length : Int)) = true := decide_eq_true (by simp)
      have HX := Aside0.mk hx
      have HN := Aside0.mk hn'
      clear hc2 hx hn' c0 c1 c2 c3 c4 c5 c6 c7 c8 c9 c10 c11 c12 c13 lb
      gi_wp2_with (refine ⟨trivial, ?_⟩; gi_at_call 28; refine (callsIn_wide.2 (len_c hE)).mono ?_; rintro e w' ⟨rfl, rfl⟩)
      refine hR.mono ?_
      rintro e W3 (⟨rfl, hJ3, hk3⟩ | ⟨rfl, hJx3⟩)
      · have hc3 : W3.cell? ⟨x.b, 12, none⟩ = some (.pointer x.q) := (fourteen (((hb.trans hk3).block x.b (Array.getElem?_eq_some_iff.1 x.blk).1).trans x.blk)).1.2.2.2.2.2.2.2.2.2.2.2.2.1
        gi_wp2
        go_roundw
        case rel => exact ⟨pre ++ [x], rest, x.q, rfl, by simp [HX.out], hr, hb.trans hk3, hJ3⟩
        case measure =>
          show leftC w0 (.pointer x.q) < leftC w0 (.pointer (some ⟨x.b, 0, none⟩))
          rw [left_eq hr, left_eq hl']; simp
      · gi_wp2
        refine bodyPost_ret (results_none rfl _ _ _) rfl ?_
        exact ⟨⟨_, rfl⟩, .inr ⟨pre ++ [x], ⟨rest, by simp [HX.out]⟩, hJx3⟩⟩
theorem last_c (p : Option Addr) (w : World) : Calls Try.prog 44 #[.pointer p] w fun e w' => e = .returned (.func (.func 50) #[] #[.pointer (some ⟨w.heap.size, 0, none⟩)]) ∧ w' = w.alloc (.cells #[.pointer p] 56) := by
  go_enter Try.func44, Try.ntmps44
  go_wp2
  go_ret
  exact ⟨rfl, rfl⟩
theorem last_stops (n : Nat) (hn : 1 ≤ n) {w0 : World} {tp p : Option Addr} {xs : List (Ent w0 tp)} (hpos : (xs.length : Int) ≤ 9223372036854775807) (hL : IsE w0 tp p xs) (w : World) (Bn : Nat) (hB : Below w0.heap.size w0 w) (hBn : Bn < w.heap.size) (hc : w.cell? ⟨Bn, 0, none⟩ = some (.pointer p)) :
    SeqStopsK Fence.wide n Try.prog 50 #[.pointer (some ⟨Bn, 0, none⟩)] (fun e : Ent w0 tp => #[e.val]) (Below w0.heap.size) (fun ys => ys = xs) (fun pre => pre <+: xs) xs.length w := fun l J Jx W hW _ _ hY h0 =>
  last1_in n hn w0 tp l Bn p xs hpos J Jx hY W (hB.trans (hW.mono hB.size)) ((hW.cell (p := ⟨Bn, 0, none⟩) hBn).trans hc) hL h0
end Go.Proofs.Ytalmhbiedkjpmaa.PEnvPlays

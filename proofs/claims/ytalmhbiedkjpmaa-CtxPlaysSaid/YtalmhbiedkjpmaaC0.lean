/-
  ctx: a context as a list of names and types, read off a world; contracts of Len and With. No conditions beyond what each lemma says.
-/
import Derived.Test.YtalmhbiedkjpmaaPCtxPlaysx
import Derived.Deep.RegionHeld3
import Derived.Deep.MidRow
import Derived.Deep.LoopGhost
import Derived.Handy
import Derived.Laws.ResultCell
namespace Go.Proofs.Ytalmhbiedkjpmaa.PCtxPlays
open Go.RowKit Go.Proofs.YtalmhbiedkjpmaaW.Mine Go.Proofs.YtalmhbiedkjpmaaW.PrintWords Go.Proofs.YtalmhbiedkjpmaaW.PrintLast Go.Proofs.YtalmhbiedkjpmaaW.PrintMore
attribute [local go_sem] max2_int min2_int max_two min_two max_three min_three max_four min_four
set_option linter.unusedVariables false
set_option linter.unusedSimpArgs false
abbrev Ty := S31
abbrev Bd := S33
abbrev kTy := k31
abbrev kBd := k33
/-- A type, and a name with a type, as values. -/
abbrev tv (x : Ty) (A3 : Option Addr) (c3 : Nat) (A4 : Option Addr) (c4 : Nat) : Value := .agg #[.int .i64 x.f0, .int .i64 x.f1, .string x.f2, .slice A3 x.f3.length c3, .slice A4 x.f4.length c4]
abbrev bv (x : Bd) (A3 : Option Addr) (c3 : Nat) (A4 : Option Addr) (c4 : Nat) : Value := .agg #[.string x.f0, .int .i64 x.f1.f0, .int .i64 x.f1.f1, .string x.f1.f2, .slice A3 x.f1.f3.length c3, .slice A4 x.f1.f4.length c4]
/-- What a type leads to is read so. -/
def RT (w : World) (x : Ty) (A3 : Option Addr) (c3 : Nat) (A4 : Option Addr) (c4 : Nat) : Prop := x.f3.length ≤ c3 ∧ Kd.string.C w A3 x.f3.length x.f3 ∧ x.f4.length ≤ c4 ∧ kTy.C w A4 x.f4.length x.f4
section
variable {w w1 : World} {x : Ty} {A3 A4 : Option Addr} {c3 c4 g : Nat}
theorem RT.below (h : RT w x A3 c3 A4 c4) (hb : Below w.heap.size w w1) : RT w1 x A3 c3 A4 c4 := ⟨h.1, Kd.C_below h.2.1 hb, h.2.2.1, Kd.C_below h.2.2.2 hb⟩
theorem chain {w a b : World} (h : Below w.heap.size w a) (k : Below a.heap.size a b) : Below w.heap.size w b := h.trans (k.mono h.size)
theorem cell_up {w w' : World} {p : Addr} {v : Value} (hb : Below w.heap.size w w') (h : w.cell? p = some v) : w'.cell? p = some v := (hb.cell (World.block_lt_of_cell? w _ h)).trans h
theorem blk_up {w w' : World} {g : Nat} {o : Obj} (hb : Below w.heap.size w w') (h : w.heap[g]? = some o) : w'.heap[g]? = some o := (hb.block g (Array.getElem?_eq_some_iff.1 h).1).trans h
theorem below_alloc1 (a : World) (o : Obj) : Below a.heap.size a (a.alloc o) := (Below.refl _ _).alloc (Nat.le_refl _) o
/-- Five and eight cells of a block. -/
theorem five {w : World} {g : Nat} {v0 v1 v2 v3 v4 : Value} {t : TypeId} (h : w.heap[g]? = some (.cells #[v0, v1, v2, v3, v4] t (0, 0))) :
    (w.cell? ⟨g, 0, none⟩ = some v0 ∧ w.cell? ⟨g, 1, none⟩ = some v1 ∧ w.cell? ⟨g, 2, none⟩ = some v2 ∧ w.cell? ⟨g, 3, none⟩ = some v3 ∧ w.cell? ⟨g, 4, none⟩ = some v4) ∧ (w.frozen? ⟨g, 0, none⟩ = false ∧ w.frozen? ⟨g, 1, none⟩ = false ∧ w.frozen? ⟨g, 2, none⟩ = false ∧ w.frozen? ⟨g, 3, none⟩ = false ∧ w.frozen? ⟨g, 4, none⟩ = false) ∧ g < w.heap.size :=
  ⟨⟨(blk_cell h 0).trans rfl, (blk_cell h 1).trans rfl, (blk_cell h 2).trans rfl, (blk_cell h 3).trans rfl, (blk_cell h 4).trans rfl⟩, ⟨blk_frozen h 0, blk_frozen h 1, blk_frozen h 2, blk_frozen h 3, blk_frozen h 4⟩, (Array.getElem?_eq_some_iff.1 h).1⟩
theorem eight {w : World} {g : Nat} {v0 v1 v2 v3 v4 v5 v6 v7 : Value} {t : TypeId} (h : w.heap[g]? = some (.cells #[v0, v1, v2, v3, v4, v5, v6, v7] t (0, 0))) :
    (w.cell? ⟨g, 0, none⟩ = some v0 ∧ w.cell? ⟨g, 1, none⟩ = some v1 ∧ w.cell? ⟨g, 2, none⟩ = some v2 ∧ w.cell? ⟨g, 3, none⟩ = some v3 ∧ w.cell? ⟨g, 4, none⟩ = some v4 ∧ w.cell? ⟨g, 5, none⟩ = some v5 ∧ w.cell? ⟨g, 6, none⟩ = some v6 ∧ w.cell? ⟨g, 7, none⟩ = some v7) ∧ g < w.heap.size :=
  ⟨⟨(blk_cell h 0).trans rfl, (blk_cell h 1).trans rfl, (blk_cell h 2).trans rfl, (blk_cell h 3).trans rfl, (blk_cell h 4).trans rfl, (blk_cell h 5).trans rfl, (blk_cell h 6).trans rfl, (blk_cell h 7).trans rfl⟩, (Array.getElem?_eq_some_iff.1 h).1⟩
end
/-- A context's cells. -/
abbrev ccells (x : Bd) (A3 : Option Addr) (c3 : Nat) (A4 : Option Addr) (c4 : Nat) (q : Option Addr) (n : Int) : Array Value := #[.string x.f0, .int .i64 x.f1.f0, .int .i64 x.f1.f1, .string x.f1.f2, .slice A3 x.f1.f3.length c3, .slice A4 x.f1.f4.length c4, .pointer q, .int .i64 n]
/-- A context, the last name first. -/
def IsCtx (w : World) : Option Addr → List Bd → Prop
  | p, [] => p = none
  | p, x :: l => ∃ b q A3 c3 A4 c4, p = some ⟨b, 0, none⟩ ∧ w.heap[b]? = some (.cells (ccells x A3 c3 A4 c4 q ((l.length + 1 : Nat) : Int)) 75 (0, 0)) ∧ RT w x.f1 A3 c3 A4 c4 ∧ IsCtx w q l
theorem IsCtx.below {w w1 : World} (hb : Below w.heap.size w w1) : ∀ {p : Option Addr} {l : List Bd}, IsCtx w p l → IsCtx w1 p l
  | _, [], h => h
  | _, _ :: _, ⟨b, q, A3, c3, A4, c4, e, hc, hr, ht⟩ => ⟨b, q, A3, c3, A4, c4, e, blk_up hb hc, hr.below hb, ht.below hb⟩
theorem len_c {w : World} {p : Option Addr} {l : List Bd} (h : IsCtx w p l) : Calls Try.prog 17 #[.pointer p] w fun e w' => e = .returned (.int .i64 (l.length : Int)) ∧ w = w' := by
  cases l with
  | nil =>
    obtain rfl : p = none := h
    go_enter Try.func17, Try.ntmps17
    go_wp2
    go_ret
    exact ⟨rfl, rfl⟩
  | cons x l =>
    obtain ⟨b, q, A3, c3, A4, c4, rfl, hc, hr, ht⟩ := h
    obtain ⟨⟨_, _, _, _, _, _, _, h7⟩, _⟩ := eight hc
    clear hc hr ht
    go_enter Try.func17, Try.ntmps17
    go_wp2
    go_ret
    exact ⟨rfl, rfl⟩
end Go.Proofs.Ytalmhbiedkjpmaa.PCtxPlays

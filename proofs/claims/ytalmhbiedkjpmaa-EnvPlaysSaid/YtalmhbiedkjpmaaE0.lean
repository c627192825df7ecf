/-
  env: an environment as a list of names and values, read off a world; contracts of Len and Of. No conditions beyond what each lemma says.
-/
import Derived.Test.YtalmhbiedkjpmaaPEnvPlaysx0
import Derived.Deep.RegionHeld3
import Derived.Deep.MidRow
import Derived.Deep.LoopGhost
import Derived.Handy
import Derived.Laws.ResultCell
import Derived.Lib.SliceRun
namespace Go.Proofs.Ytalmhbiedkjpmaa.PEnvPlays
open Go.RowKit Go.Proofs.YtalmhbiedkjpmaaW.Mine Go.Proofs.YtalmhbiedkjpmaaW.PrintWords Go.Proofs.YtalmhbiedkjpmaaW.PrintLast Go.Proofs.YtalmhbiedkjpmaaW.PrintMore
attribute [local go_sem] max2_int min2_int max_two min_two max_three min_three max_four min_four
set_option linter.unusedVariables false
set_option linter.unusedSimpArgs false
abbrev Ty := S31
abbrev Vl := S52
abbrev Sl := S54
abbrev kTy := k31
abbrev kVl := k52
abbrev kSl := k54
abbrev tv (x : Ty) (A3 : Option Addr) (c3 : Nat) (A4 : Option Addr) (c4 : Nat) : Value := .agg #[.int .i64 x.f0, .int .i64 x.f1, .string x.f2, .slice A3 x.f3.length c3, .slice A4 x.f4.length c4]
abbrev vv (x : Vl) (A6 : Option Addr) (c6 : Nat) (A7 : Option Addr) (c7 : Nat) (A8 : Option Addr) (c8 : Nat) : Value := .agg #[.int .i64 x.f0, .int .i64 x.f1, .int .i64 x.f2, .bool x.f3, .string x.f4, .string x.f5.f0, .int .i64 x.f5.f1, .slice A6 x.f6.length c6, .slice A7 x.f7.length c7, .slice A8 x.f8.length c8]
abbrev vcells (x : Vl) (A6 : Option Addr) (c6 : Nat) (A7 : Option Addr) (c7 : Nat) (A8 : Option Addr) (c8 : Nat) : Array Value := #[.int .i64 x.f0, .int .i64 x.f1, .int .i64 x.f2, .bool x.f3, .string x.f4, .string x.f5.f0, .int .i64 x.f5.f1, .slice A6 x.f6.length c6, .slice A7 x.f7.length c7, .slice A8 x.f8.length c8]
/-- What a type, a value leads to is read so. -/
def RT (w : World) (x : Ty) (A3 : Option Addr) (c3 : Nat) (A4 : Option Addr) (c4 : Nat) : Prop := x.f3.length ≤ c3 ∧ Kd.string.C w A3 x.f3.length x.f3 ∧ x.f4.length ≤ c4 ∧ kTy.C w A4 x.f4.length x.f4
def RV (w : World) (x : Vl) (A6 : Option Addr) (c6 : Nat) (A7 : Option Addr) (c7 : Nat) (A8 : Option Addr) (c8 : Nat) : Prop := x.f6.length ≤ c6 ∧ kTy.C w A6 x.f6.length x.f6 ∧ x.f7.length ≤ c7 ∧ Kd.string.C w A7 x.f7.length x.f7 ∧ x.f8.length ≤ c8 ∧ kVl.C w A8 x.f8.length x.f8
theorem RT.below {w w1 : World} {x : Ty} {A3 A4 : Option Addr} {c3 c4 : Nat} (h : RT w x A3 c3 A4 c4) (hb : Below w.heap.size w w1) : RT w1 x A3 c3 A4 c4 := ⟨h.1, Kd.C_below h.2.1 hb, h.2.2.1, Kd.C_below h.2.2.2 hb⟩
theorem RV.below {w w1 : World} {x : Vl} {A6 A7 A8 : Option Addr} {c6 c7 c8 : Nat} (h : RV w x A6 c6 A7 c7 A8 c8) (hb : Below w.heap.size w w1) : RV w1 x A6 c6 A7 c7 A8 c8 :=
  ⟨h.1, Kd.C_below h.2.1 hb, h.2.2.1, Kd.C_below h.2.2.2.1 hb, h.2.2.2.2.1, Kd.C_below h.2.2.2.2.2 hb⟩
theorem chain {w a b : World} (h : Below w.heap.size w a) (k : Below a.heap.size a b) : Below w.heap.size w b := h.trans (k.mono h.size)
theorem cell_up {w w' : World} {p : Addr} {v : Value} (hb : Below w.heap.size w w') (h : w.cell? p = some v) : w'.cell? p = some v := (hb.cell (World.block_lt_of_cell? w _ h)).trans h
theorem blk_up {w w' : World} {g : Nat} {o : Obj} (hb : Below w.heap.size w w') (h : w.heap[g]? = some o) : w'.heap[g]? = some o := (hb.block g (Array.getElem?_eq_some_iff.1 h).1).trans h
theorem below_alloc1 (a : World) (o : Obj) : Below a.heap.size a (a.alloc o) := (Below.refl _ _).alloc (Nat.le_refl _) o
theorem below_call' {X u v : World} (h : Below X.heap.size X u) (hb : Below u.heap.size u v) : Below X.heap.size X v := chain h hb
theorem and_of {A B : Prop} (f : A → B) (a : A) : A ∧ B := ⟨a, f a⟩
theorem with_cont {G A : Prop} (g : G) (f : Aside0 G → A) : A := f ⟨g⟩
/-- The cells of a block. -/
theorem one {w : World} {g : Nat} {v0 : Value} {t : TypeId} (h : w.heap[g]? = some (.cells #[v0] t (0, 0))) : w.cell? ⟨g, 0, none⟩ = some v0 ∧ w.frozen? ⟨g, 0, none⟩ = false ∧ g < w.heap.size :=
  ⟨(blk_cell h 0).trans rfl, blk_frozen h 0, (Array.getElem?_eq_some_iff.1 h).1⟩
theorem two {w : World} {g : Nat} {v0 v1 : Value} {t : TypeId} (h : w.heap[g]? = some (.cells #[v0, v1] t (0, 0))) : (w.cell? ⟨g, 0, none⟩ = some v0 ∧ w.cell? ⟨g, 1, none⟩ = some v1) ∧ g < w.heap.size :=
  ⟨⟨(blk_cell h 0).trans rfl, (blk_cell h 1).trans rfl⟩, (Array.getElem?_eq_some_iff.1 h).1⟩
theorem five {w : World} {g : Nat} {v0 v1 v2 v3 v4 : Value} {t : TypeId} (h : w.heap[g]? = some (.cells #[v0, v1, v2, v3, v4] t (0, 0))) :
    (w.cell? ⟨g, 0, none⟩ = some v0 ∧ w.cell? ⟨g, 1, none⟩ = some v1 ∧ w.cell? ⟨g, 2, none⟩ = some v2 ∧ w.cell? ⟨g, 3, none⟩ = some v3 ∧ w.cell? ⟨g, 4, none⟩ = some v4) ∧ (w.frozen? ⟨g, 0, none⟩ = false ∧ w.frozen? ⟨g, 1, none⟩ = false ∧ w.frozen? ⟨g, 2, none⟩ = false ∧ w.frozen? ⟨g, 3, none⟩ = false ∧ w.frozen? ⟨g, 4, none⟩ = false) ∧ g < w.heap.size :=
  ⟨⟨(blk_cell h 0).trans rfl, (blk_cell h 1).trans rfl, (blk_cell h 2).trans rfl, (blk_cell h 3).trans rfl, (blk_cell h 4).trans rfl⟩, ⟨blk_frozen h 0, blk_frozen h 1, blk_frozen h 2, blk_frozen h 3, blk_frozen h 4⟩, (Array.getElem?_eq_some_iff.1 h).1⟩
theorem ten {w : World} {g : Nat} {v0 v1 v2 v3 v4 v5 v6 v7 v8 v9 : Value} {t : TypeId} (h : w.heap[g]? = some (.cells #[v0, v1, v2, v3, v4, v5, v6, v7, v8, v9] t (0, 0))) :
    (w.cell? ⟨g, 0, none⟩ = some v0 ∧ w.cell? ⟨g, 1, none⟩ = some v1 ∧ w.cell? ⟨g, 2, none⟩ = some v2 ∧ w.cell? ⟨g, 3, none⟩ = some v3 ∧ w.cell? ⟨g, 4, none⟩ = some v4 ∧ w.cell? ⟨g, 5, none⟩ = some v5 ∧ w.cell? ⟨g, 6, none⟩ = some v6 ∧ w.cell? ⟨g, 7, none⟩ = some v7 ∧ w.cell? ⟨g, 8, none⟩ = some v8 ∧ w.cell? ⟨g, 9, none⟩ = some v9) ∧
    (w.frozen? ⟨g, 0, none⟩ = false ∧ w.frozen? ⟨g, 1, none⟩ = false ∧ w.frozen? ⟨g, 2, none⟩ = false ∧ w.frozen? ⟨g, 3, none⟩ = false ∧ w.frozen? ⟨g, 4, none⟩ = false ∧ w.frozen? ⟨g, 5, none⟩ = false ∧ w.frozen? ⟨g, 6, none⟩ = false ∧ w.frozen? ⟨g, 7, none⟩ = false ∧ w.frozen? ⟨g, 8, none⟩ = false ∧ w.frozen? ⟨g, 9, none⟩ = false) ∧ g < w.heap.size :=
  ⟨⟨(blk_cell h 0).trans rfl, (blk_cell h 1).trans rfl, (blk_cell h 2).trans rfl, (blk_cell h 3).trans rfl, (blk_cell h 4).trans rfl, (blk_cell h 5).trans rfl, (blk_cell h 6).trans rfl, (blk_cell h 7).trans rfl, (blk_cell h 8).trans rfl, (blk_cell h 9).trans rfl⟩,
   ⟨blk_frozen h 0, blk_frozen h 1, blk_frozen h 2, blk_frozen h 3, blk_frozen h 4, blk_frozen h 5, blk_frozen h 6, blk_frozen h 7, blk_frozen h 8, blk_frozen h 9⟩, (Array.getElem?_eq_some_iff.1 h).1⟩
/-- An environment's cells. -/
abbrev ecells (s : ByteArray) (x : Vl) (A6 : Option Addr) (c6 : Nat) (A7 : Option Addr) (c7 : Nat) (A8 : Option Addr) (c8 : Nat) (n : Int) (q tp : Option Addr) : Array Value := #[.string s, .int .i64 x.f0, .int .i64 x.f1, .int .i64 x.f2, .bool x.f3, .string x.f4, .string x.f5.f0, .int .i64 x.f5.f1, .slice A6 x.f6.length c6, .slice A7 x.f7.length c7, .slice A8 x.f8.length c8, .int .i64 n, .pointer q, .pointer tp]
theorem fourteen {w : World} {g : Nat} {v0 v1 v2 v3 v4 v5 v6 v7 v8 v9 v10 v11 v12 v13 : Value} {t : TypeId} (h : w.heap[g]? = some (.cells #[v0, v1, v2, v3, v4, v5, v6, v7, v8, v9, v10, v11, v12, v13] t (0, 0))) :
    (w.cell? ⟨g, 0, none⟩ = some v0 ∧ w.cell? ⟨g, 1, none⟩ = some v1 ∧ w.cell? ⟨g, 2, none⟩ = some v2 ∧ w.cell? ⟨g, 3, none⟩ = some v3 ∧ w.cell? ⟨g, 4, none⟩ = some v4 ∧ w.cell? ⟨g, 5, none⟩ = some v5 ∧ w.cell? ⟨g, 6, none⟩ = some v6 ∧ w.cell? ⟨g, 7, none⟩ = some v7 ∧ w.cell? ⟨g, 8, none⟩ = some v8 ∧ w.cell? ⟨g, 9, none⟩ = some v9 ∧ w.cell? ⟨g, 10, none⟩ = some v10 ∧ w.cell? ⟨g, 11, none⟩ = some v11 ∧ w.cell? ⟨g, 12, none⟩ = some v12 ∧ w.cell? ⟨g, 13, none⟩ = some v13) ∧ g < w.heap.size :=
  ⟨⟨(blk_cell h 0).trans rfl, (blk_cell h 1).trans rfl, (blk_cell h 2).trans rfl, (blk_cell h 3).trans rfl, (blk_cell h 4).trans rfl, (blk_cell h 5).trans rfl, (blk_cell h 6).trans rfl, (blk_cell h 7).trans rfl, (blk_cell h 8).trans rfl, (blk_cell h 9).trans rfl, (blk_cell h 10).trans rfl, (blk_cell h 11).trans rfl, (blk_cell h 12).trans rfl, (blk_cell h 13).trans rfl⟩, (Array.getElem?_eq_some_iff.1 h).1⟩
/-- An environment, the last name first; tp: where its type names lie. -/
def IsEnv (w : World) (tp : Option Addr) : Option Addr → List Sl → Prop
  | p, [] => (p = none ∧ tp = none) ∨ ∃ b, p = some ⟨b, 0, none⟩ ∧ w.heap[b]? = some (.cells (ecells ⟨#[]⟩ z52 none 0 none 0 none 0 0 none tp) 88 (0, 0))
  | p, x :: l => ∃ b q A6 c6 A7 c7 A8 c8, p = some ⟨b, 0, none⟩ ∧ w.heap[b]? = some (.cells (ecells x.f0 x.f1 A6 c6 A7 c7 A8 c8 ((l.length + 1 : Nat) : Int) q tp) 88 (0, 0)) ∧ RV w x.f1 A6 c6 A7 c7 A8 c8 ∧ IsEnv w tp q l
theorem IsEnv.below {w w1 : World} {tp : Option Addr} (hb : Below w.heap.size w w1) : ∀ {p : Option Addr} {l : List Sl}, IsEnv w tp p l → IsEnv w1 tp p l
  | _, [], .inl h => .inl h
  | _, [], .inr ⟨b, e, h⟩ => .inr ⟨b, e, blk_up hb h⟩
  | _, _ :: _, ⟨b, q, A6, c6, A7, c7, A8, c8, e, hc, hr, ht⟩ => ⟨b, q, A6, c6, A7, c7, A8, c8, e, blk_up hb hc, hr.below hb, ht.below hb⟩
/-- Where the type names lie. -/
def IsTys (w : World) (tp : Option Addr) (names : List ByteArray) (from' : Int) : Prop := ∃ b A c, tp = some ⟨b, 0, none⟩ ∧ w.heap[b]? = some (.cells #[.slice A names.length c, .int .i64 from'] 86 (0, 0)) ∧ names.length ≤ c ∧ Kd.string.C w A names.length names
theorem IsTys.below {w w1 : World} {tp : Option Addr} {names : List ByteArray} {from' : Int} (h : IsTys w tp names from') (hb : Below w.heap.size w w1) : IsTys w1 tp names from' := by
  obtain ⟨b, A, c, e, hc, hl, hr⟩ := h
  exact ⟨b, A, c, e, blk_up hb hc, hl, Kd.C_below hr hb⟩
theorem len_c {w : World} {tp p : Option Addr} {l : List Sl} (h : IsEnv w tp p l) : Calls Try.prog 28 #[.pointer p] w fun e w' => e = .returned (.int .i64 (l.length : Int)) ∧ w = w' := by
  cases l with
  | nil =>
    rcases h with ⟨rfl, _⟩ | ⟨b, rfl, hc⟩
    · go_enter Try.func28, Try.ntmps28
      go_wp2
      go_ret
      exact ⟨rfl, rfl⟩
    · have h11 := (fourteen hc).1.2.2.2.2.2.2.2.2.2.2.2.1
      clear hc
      go_enter Try.func28, Try.ntmps28
      go_wp2
      go_ret
      exact ⟨rfl, rfl⟩
  | cons x l =>
    obtain ⟨b, q, A6, c6, A7, c7, A8, c8, rfl, hc, hr, ht⟩ := h
    have h11 := (fourteen hc).1.2.2.2.2.2.2.2.2.2.2.2.1
    clear hc hr ht
    go_enter Try.func28, Try.ntmps28
    go_wp2
    go_ret
    exact ⟨rfl, rfl⟩
end Go.Proofs.Ytalmhbiedkjpmaa.PEnvPlays

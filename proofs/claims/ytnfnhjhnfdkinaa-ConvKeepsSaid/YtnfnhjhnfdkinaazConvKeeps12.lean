/-
  ConvKeeps: texts of this claim, put together by a program of this session. No conditions beyond what each lemma says.
-/
import Derived.Test.YtnfnhjhnfdkinaazConvKeeps11
namespace Go.Proofs.Ytnfnhjhnfdkinaa.PConvBack
open Go.RowKit Go.Proofs.YtnfnhjhnfdkinaaW.Mine Go.Proofs.YtnfnhjhnfdkinaaW.PrintWords Go.Proofs.YtnfnhjhnfdkinaaW.PrintLast Go.Proofs.YtnfnhjhnfdkinaaW.PrintMore
set_option linter.unusedVariables false
set_option linter.unusedSimpArgs false
abbrev Vl := S55
abbrev kVl := k55
abbrev Se := S86
abbrev kSe := k86
abbrev vv (x : Vl) (A6 : Option Addr) (c6 : Nat) (A7 : Option Addr) (c7 : Nat) (A8 : Option Addr) (c8 : Nat) : Value := .agg #[.int .i64 x.f0, .int .i64 x.f1, .int .i64 x.f2, .bool x.f3, .string x.f4, .string x.f5.f0, .int .i64 x.f5.f1, .slice A6 x.f6.length c6, .slice A7 x.f7.length c7, .slice A8 x.f8.length c8]
abbrev vcells (x : Vl) (A6 : Option Addr) (c6 : Nat) (A7 : Option Addr) (c7 : Nat) (A8 : Option Addr) (c8 : Nat) : Array Value := #[.int .i64 x.f0, .int .i64 x.f1, .int .i64 x.f2, .bool x.f3, .string x.f4, .string x.f5.f0, .int .i64 x.f5.f1, .slice A6 x.f6.length c6, .slice A7 x.f7.length c7, .slice A8 x.f8.length c8]
abbrev vlist (x : Vl) (A6 : Option Addr) (c6 : Nat) (A7 : Option Addr) (c7 : Nat) (A8 : Option Addr) (c8 : Nat) : List Value := [.int .i64 x.f0, .int .i64 x.f1, .int .i64 x.f2, .bool x.f3, .string x.f4, .string x.f5.f0, .int .i64 x.f5.f1, .slice A6 x.f6.length c6, .slice A7 x.f7.length c7, .slice A8 x.f8.length c8]
abbrev zcells : Array Value := #[.int .i64 0, .int .i64 0, .int .i64 0, .bool false, .string ⟨#[]⟩, .string ⟨#[]⟩, .int .i64 0, .slice none 0 0, .slice none 0 0, .slice none 0 0]
abbrev zV : Vl := z55
theorem heapVl : Kd.Heap kVl := k55_heap
theorem heapSe : Kd.Heap kSe := k86_heap
def RV (w : World) (x : Vl) (A6 : Option Addr) (c6 : Nat) (A7 : Option Addr) (c7 : Nat) (A8 : Option Addr) (c8 : Nat) : Prop := x.f6.length ≤ c6 ∧ kTy.C w A6 x.f6.length x.f6 ∧ x.f7.length ≤ c7 ∧ Kd.string.C w A7 x.f7.length x.f7 ∧ x.f8.length ≤ c8 ∧ kVl.C w A8 x.f8.length x.f8
def FV (w : World) (ok : Nat → Prop) (x : Vl) (A6 : Option Addr) (c6 : Nat) (A7 : Option Addr) (c7 : Nat) (A8 : Option Addr) (c8 : Nat) : Prop := x.f6.length ≤ c6 ∧ Kd.F kTy w ok A6 x.f6.length x.f6 ∧ x.f7.length ≤ c7 ∧ Kd.F Kd.string w ok A7 x.f7.length x.f7 ∧ x.f8.length ≤ c8 ∧ Kd.F kVl w ok A8 x.f8.length x.f8
def RT (w : World) (x : Ty) (A3 : Option Addr) (c3 : Nat) (A4 : Option Addr) (c4 : Nat) : Prop := x.f3.length ≤ c3 ∧ Kd.string.C w A3 x.f3.length x.f3 ∧ x.f4.length ≤ c4 ∧ kTy.C w A4 x.f4.length x.f4
section
variable {w w1 : World} {ok ok' : Nat → Prop} {x : Vl} {t : Ty} {A3 A4 A6 A7 A8 : Option Addr} {c3 c4 c6 c7 c8 g : Nat}
theorem RT.below (h : RT w t A3 c3 A4 c4) (hb : Below w.heap.size w w1) : RT w1 t A3 c3 A4 c4 := ⟨h.1, Kd.C_below h.2.1 hb, h.2.2.1, Kd.C_below h.2.2.2 hb⟩
theorem RT.ft (h : RT w t A3 c3 A4 c4) : FT w (fun k => k < w.heap.size) t A3 c3 A4 c4 := FT.start h.1 h.2.1 h.2.2.1 h.2.2.2
theorem FT.rt (h : FT w ok t A3 c3 A4 c4) : RT w t A3 c3 A4 c4 := ⟨h.1, h.r3, h.2.2.1, h.r4⟩
theorem RT.zero (w : World) : RT w z25 none 0 none 0 := ⟨Nat.le_refl _, Kd.C_nil _ w, Nat.le_refl _, Kd.C_nil _ w⟩
theorem RV.below (h : RV w x A6 c6 A7 c7 A8 c8) (hb : Below w.heap.size w w1) : RV w1 x A6 c6 A7 c7 A8 c8 := ⟨h.1, Kd.C_below h.2.1 hb, h.2.2.1, Kd.C_below h.2.2.2.1 hb, h.2.2.2.2.1, Kd.C_below h.2.2.2.2.2 hb⟩
theorem RV.zero (w : World) : RV w zV none 0 none 0 none 0 := ⟨Nat.le_refl _, Kd.C_nil _ w, Nat.le_refl _, Kd.C_nil _ w, Nat.le_refl _, Kd.C_nil _ w⟩
theorem FV.below (h : FV w ok x A6 c6 A7 c7 A8 c8) (hb : Below w.heap.size w w1) : FV w1 ok x A6 c6 A7 c7 A8 c8 := ⟨h.1, Kd.F_below h.2.1 hb, h.2.2.1, Kd.F_below h.2.2.2.1 hb, h.2.2.2.2.1, Kd.F_below h.2.2.2.2.2 hb⟩
theorem FV.mono (h : FV w ok x A6 c6 A7 c7 A8 c8) (hk : ∀ k, ok k → ok' k) : FV w ok' x A6 c6 A7 c7 A8 c8 := ⟨h.1, Kd.F_mono h.2.1 hk, h.2.2.1, Kd.F_mono h.2.2.2.1 hk, h.2.2.2.2.1, Kd.F_mono h.2.2.2.2.2 hk⟩
theorem FV.bound (h : FV w ok x A6 c6 A7 c7 A8 c8) : FV w (fun k => ok k ∧ k < w.heap.size) x A6 c6 A7 c7 A8 c8 := ⟨h.1, Kd.F_bound h.2.1, h.2.2.1, Kd.F_bound h.2.2.2.1, h.2.2.2.2.1, Kd.F_bound h.2.2.2.2.2⟩
theorem FV.far (h : FV w ok x A6 c6 A7 c7 A8 c8) {p : Addr} (hk : ∀ k, ok k → k ≠ p.block) (u : Value) : FV (w.setCell p u) ok x A6 c6 A7 c7 A8 c8 := ⟨h.1, Kd.F_far h.2.1 hk u, h.2.2.1, Kd.F_far h.2.2.2.1 hk u, h.2.2.2.2.1, Kd.F_far h.2.2.2.2.2 hk u⟩
theorem FV.rv (h : FV w ok x A6 c6 A7 c7 A8 c8) : RV w x A6 c6 A7 c7 A8 c8 := ⟨h.1, Kd.F_now h.2.1, h.2.2.1, Kd.F_now h.2.2.2.1, h.2.2.2.2.1, Kd.F_now h.2.2.2.2.2⟩
theorem RV.fv (h : RV w x A6 c6 A7 c7 A8 c8) : FV w (fun k => k < w.heap.size) x A6 c6 A7 c7 A8 c8 := ⟨h.1, Kd.C_F heapTy h.2.1, h.2.2.1, Kd.C_F Kd.heap_string h.2.2.2.1, h.2.2.2.2.1, Kd.C_F heapVl h.2.2.2.2.2⟩
theorem FV.fk (h : FV w ok x A6 c6 A7 c7 A8 c8) : Kd.FK kVl w ok x (vlist x A6 c6 A7 c7 A8 c8) := k55_mkF w ok x h.1 h.2.1 h.2.2.1 h.2.2.2.1 h.2.2.2.2.1 h.2.2.2.2.2
theorem FV.of_fk {cs : List Value} (h : Kd.FK kVl w ok x cs) : ∃ A6 c6 A7 c7 A8 c8, cs = vlist x A6 c6 A7 c7 A8 c8 ∧ FV w ok x A6 c6 A7 c7 A8 c8 := by
  obtain ⟨A6, c6, A7, c7, A8, c8, e, h1, h2, h3, h4, h5, h6⟩ := k55_openF h
  exact ⟨A6, c6, A7, c7, A8, c8, e, h1, h2, h3, h4, h5, h6⟩
theorem FV.zero (w : World) (ok : Nat → Prop) : FV w ok zV none 0 none 0 none 0 := ⟨Nat.le_refl _, Kd.F_nil _ _ _, Nat.le_refl _, Kd.F_nil _ _ _, Nat.le_refl _, Kd.F_nil _ _ _⟩
end
theorem blk_up {w w' : World} {g : Nat} {o : Obj} (hb : Below w.heap.size w w') (h : w.heap[g]? = some o) : w'.heap[g]? = some o := (hb.block g (Array.getElem?_eq_some_iff.1 h).1).trans h
theorem three {w : World} {g : Nat} {v0 v1 v2 : Value} {t : TypeId} (h : w.heap[g]? = some (.cells #[v0, v1, v2] t (0, 0))) : (w.cell? ⟨g, 0, none⟩ = some v0 ∧ w.cell? ⟨g, 1, none⟩ = some v1 ∧ w.cell? ⟨g, 2, none⟩ = some v2) ∧ (w.frozen? ⟨g, 0, none⟩ = false ∧ w.frozen? ⟨g, 1, none⟩ = false ∧ w.frozen? ⟨g, 2, none⟩ = false) ∧ g < w.heap.size :=
  ⟨⟨(blk_cell h 0).trans rfl, (blk_cell h 1).trans rfl, (blk_cell h 2).trans rfl⟩, ⟨blk_frozen h 0, blk_frozen h 1, blk_frozen h 2⟩, blk_lt h⟩
theorem ten {w : World} {g : Nat} {v0 v1 v2 v3 v4 v5 v6 v7 v8 v9 : Value} {t : TypeId} (h : w.heap[g]? = some (.cells #[v0, v1, v2, v3, v4, v5, v6, v7, v8, v9] t (0, 0))) :
    (w.cell? ⟨g, 0, none⟩ = some v0 ∧ w.cell? ⟨g, 1, none⟩ = some v1 ∧ w.cell? ⟨g, 2, none⟩ = some v2 ∧ w.cell? ⟨g, 3, none⟩ = some v3 ∧ w.cell? ⟨g, 4, none⟩ = some v4 ∧ w.cell? ⟨g, 5, none⟩ = some v5 ∧ w.cell? ⟨g, 6, none⟩ = some v6 ∧ w.cell? ⟨g, 7, none⟩ = some v7 ∧ w.cell? ⟨g, 8, none⟩ = some v8 ∧ w.cell? ⟨g, 9, none⟩ = some v9) ∧
    (w.frozen? ⟨g, 0, none⟩ = false ∧ w.frozen? ⟨g, 1, none⟩ = false ∧ w.frozen? ⟨g, 2, none⟩ = false ∧ w.frozen? ⟨g, 3, none⟩ = false ∧ w.frozen? ⟨g, 4, none⟩ = false ∧ w.frozen? ⟨g, 5, none⟩ = false ∧ w.frozen? ⟨g, 6, none⟩ = false ∧ w.frozen? ⟨g, 7, none⟩ = false ∧ w.frozen? ⟨g, 8, none⟩ = false ∧ w.frozen? ⟨g, 9, none⟩ = false) ∧ g < w.heap.size :=
  ⟨⟨(blk_cell h 0).trans rfl, (blk_cell h 1).trans rfl, (blk_cell h 2).trans rfl, (blk_cell h 3).trans rfl, (blk_cell h 4).trans rfl, (blk_cell h 5).trans rfl, (blk_cell h 6).trans rfl, (blk_cell h 7).trans rfl, (blk_cell h 8).trans rfl, (blk_cell h 9).trans rfl⟩,
   ⟨blk_frozen h 0, blk_frozen h 1, blk_frozen h 2, blk_frozen h 3, blk_frozen h 4, blk_frozen h 5, blk_frozen h 6, blk_frozen h 7, blk_frozen h 8, blk_frozen h 9⟩, blk_lt h⟩
/-- A whole value is stored into a box. -/
abbrev set10 (w : World) (g : Nat) (v0 v1 v2 v3 v4 v5 v6 v7 v8 v9 : Value) : World := ((((((((((w.setCell ⟨g, 0, none⟩ v0).setCell ⟨g, 1, none⟩ v1).setCell ⟨g, 2, none⟩ v2).setCell ⟨g, 3, none⟩ v3).setCell ⟨g, 4, none⟩ v4).setCell ⟨g, 5, none⟩ v5).setCell ⟨g, 6, none⟩ v6).setCell ⟨g, 7, none⟩ v7).setCell ⟨g, 8, none⟩ v8).setCell ⟨g, 9, none⟩ v9)
theorem stored10 {w : World} {g : Nat} {t : TypeId} {z0 z1 z2 z3 z4 z5 z6 z7 z8 z9 : Value} (h : w.heap[g]? = some (.cells #[z0, z1, z2, z3, z4, z5, z6, z7, z8, z9] t (0, 0))) (v0 v1 v2 v3 v4 v5 v6 v7 v8 v9 : Value) :
    (((((((((((w.setCell ⟨g, 0, none⟩ v0).setCell ⟨g, 1, none⟩ v1).setCell ⟨g, 2, none⟩ v2).setCell ⟨g, 3, none⟩ v3).setCell ⟨g, 4, none⟩ v4).setCell ⟨g, 5, none⟩ v5).setCell ⟨g, 6, none⟩ v6).setCell ⟨g, 7, none⟩ v7).setCell ⟨g, 8, none⟩ v8).setCell ⟨g, 9, none⟩ v9)).heap[g]? = some (.cells #[v0, v1, v2, v3, v4, v5, v6, v7, v8, v9] t (0, 0)) := (blk_put (cs' := #[v0, v1, v2, v3, v4, v5, v6, v7, v8, v9]) (blk_put (cs' := #[v0, v1, v2, v3, v4, v5, v6, v7, v8, z9]) (blk_put (cs' := #[v0, v1, v2, v3, v4, v5, v6, v7, z8, z9]) (blk_put (cs' := #[v0, v1, v2, v3, v4, v5, v6, z7, z8, z9]) (blk_put (cs' := #[v0, v1, v2, v3, v4, v5, z6, z7, z8, z9]) (blk_put (cs' := #[v0, v1, v2, v3, v4, z5, z6, z7, z8, z9]) (blk_put (cs' := #[v0, v1, v2, v3, z4, z5, z6, z7, z8, z9]) (blk_put (cs' := #[v0, v1, v2, z3, z4, z5, z6, z7, z8, z9]) (blk_put (cs' := #[v0, v1, z2, z3, z4, z5, z6, z7, z8, z9]) (blk_put (cs' := #[v0, z1, z2, z3, z4, z5, z6, z7, z8, z9]) h 0 v0 rfl) 1 v1 rfl) 2 v2 rfl) 3 v3 rfl) 4 v4 rfl) 5 v5 rfl) 6 v6 rfl) 7 v7 rfl) 8 v8 rfl) 9 v9 rfl)
theorem below10 {w0 w : World} {g : Nat} (h : Below w0.heap.size w0 w) (hg : w0.heap.size ≤ g) (v0 v1 v2 v3 v4 v5 v6 v7 v8 v9 : Value) : Below w0.heap.size w0 (set10 w g v0 v1 v2 v3 v4 v5 v6 v7 v8 v9) :=
  below_set (below_set (below_set (below_set (below_set (below_set (below_set (below_set (below_set (below_set h hg) hg) hg) hg) hg) hg) hg) hg) hg) hg
theorem FV.stored {w : World} {ok : Nat → Prop} {x : Vl} {A6 A7 A8 : Option Addr} {c6 c7 c8 g : Nat} (h : FV w ok x A6 c6 A7 c7 A8 c8) (hk : ∀ k, ok k → k ≠ g) (v0 v1 v2 v3 v4 v5 v6 v7 v8 v9 : Value) : FV (set10 w g v0 v1 v2 v3 v4 v5 v6 v7 v8 v9) ok x A6 c6 A7 c7 A8 c8 :=
  (((((((((h.far (p := ⟨g, 0, none⟩) hk v0).far (p := ⟨g, 1, none⟩) hk v1).far (p := ⟨g, 2, none⟩) hk v2).far (p := ⟨g, 3, none⟩) hk v3).far (p := ⟨g, 4, none⟩) hk v4).far (p := ⟨g, 5, none⟩) hk v5).far (p := ⟨g, 6, none⟩) hk v6).far (p := ⟨g, 7, none⟩) hk v7).far (p := ⟨g, 8, none⟩) hk v8).far (p := ⟨g, 9, none⟩) hk v9
/-- An element of a list of values, of types, of seals. -/
theorem velt {w : World} {ok : Nat → Prop} {A : Option Addr} {l : List Vl} (h : Kd.F kVl w ok A l.length l) (i : Nat) (hi : i < l.length) : ∃ ad A6 c6 A7 c7 A8 c8, A = some ad ∧ FV w ok l[i] A6 c6 A7 c7 A8 c8 ∧
    w.cell? (ad.add (i * 10)) = some (.int .i64 l[i].f0) ∧ w.cell? ⟨(ad.add (i * 10)).block, (ad.add (i * 10)).off + 1, none⟩ = some (.int .i64 l[i].f1) ∧ w.cell? ⟨(ad.add (i * 10)).block, (ad.add (i * 10)).off + 2, none⟩ = some (.int .i64 l[i].f2) ∧
    w.cell? ⟨(ad.add (i * 10)).block, (ad.add (i * 10)).off + 3, none⟩ = some (.bool l[i].f3) ∧ w.cell? ⟨(ad.add (i * 10)).block, (ad.add (i * 10)).off + 4, none⟩ = some (.string l[i].f4) ∧ w.cell? ⟨(ad.add (i * 10)).block, (ad.add (i * 10)).off + 5, none⟩ = some (.string l[i].f5.f0) ∧
    w.cell? ⟨(ad.add (i * 10)).block, (ad.add (i * 10)).off + 6, none⟩ = some (.int .i64 l[i].f5.f1) ∧ w.cell? ⟨(ad.add (i * 10)).block, (ad.add (i * 10)).off + 7, none⟩ = some (.slice A6 l[i].f6.length c6) ∧ w.cell? ⟨(ad.add (i * 10)).block, (ad.add (i * 10)).off + 8, none⟩ = some (.slice A7 l[i].f7.length c7) ∧
    w.cell? ⟨(ad.add (i * 10)).block, (ad.add (i * 10)).off + 9, none⟩ = some (.slice A8 l[i].f8.length c8) := by
  obtain ⟨ad, c, e, _, hfk, hc0, _⟩ := Kd.F_get h zV i (by omega) (by omega)
  rw [getD_at zV l i hi] at hfk
  obtain ⟨A6, c6, A7, c7, A8, c8, rfl, hft⟩ := FV.of_fk hfk
  have hc : ∀ j u, (vlist l[i] A6 c6 A7 c7 A8 c8)[j]? = some u → w.cell? (ad.add (i * 10 + j)) = some u := hc0
  exact ⟨ad, A6, c6, A7, c7, A8, c8, e, hft, hc 0 _ rfl, by rw [← add_field _ _ 1 (by omega)]; exact hc 1 _ rfl, by rw [← add_field _ _ 2 (by omega)]; exact hc 2 _ rfl, by rw [← add_field _ _ 3 (by omega)]; exact hc 3 _ rfl, by rw [← add_field _ _ 4 (by omega)]; exact hc 4 _ rfl, by rw [← add_field _ _ 5 (by omega)]; exact hc 5 _ rfl, by rw [← add_field _ _ 6 (by omega)]; exact hc 6 _ rfl, by rw [← add_field _ _ 7 (by omega)]; exact hc 7 _ rfl, by rw [← add_field _ _ 8 (by omega)]; exact hc 8 _ rfl, by rw [← add_field _ _ 9 (by omega)]; exact hc 9 _ rfl⟩
/-- A value comes, or none: what it leads to lies in the blocks of ok. -/
def VOut (w : World) (ok : Nat → Prop) (o : Option Vl) (e : Ending) (w' : World) : Prop :=
  Below w.heap.size w w' ∧ match o with
  | none => e = .returned (.tuple #[vv zV none 0 none 0 none 0, .bool false])
  | some u => ∃ A6 c6 A7 c7 A8 c8, e = .returned (.tuple #[vv u A6 c6 A7 c7 A8 c8, .bool true]) ∧ FV w' ok u A6 c6 A7 c7 A8 c8
theorem VOut.no {w w' : World} {ok : Nat → Prop} {o : Option Vl} (hb : Below w.heap.size w w') (ho : o = none) : VOut w ok o (.returned (.tuple #[vv zV none 0 none 0 none 0, .bool false])) w' := by
  subst ho; exact ⟨hb, rfl⟩
theorem VOut.yes {w w' : World} {ok : Nat → Prop} {o : Option Vl} {u : Vl} {A6 A7 A8 : Option Addr} {c6 c7 c8 : Nat} (hb : Below w.heap.size w w') (ho : o = some u) (hf : FV w' ok u A6 c6 A7 c7 A8 c8) : VOut w ok o (.returned (.tuple #[vv u A6 c6 A7 c7 A8 c8, .bool true])) w' := by
  subst ho; exact ⟨hb, A6, c6, A7, c7, A8, c8, rfl, hf⟩
theorem VOut.mono {w w' : World} {ok ok' : Nat → Prop} {o : Option Vl} {e : Ending} (h : VOut w ok o e w') (hk : ∀ k, ok k → ok' k) : VOut w ok' o e w' := by
  cases o with
  | none => exact h
  | some u => obtain ⟨hb, A6, c6, A7, c7, A8, c8, he, hf⟩ := h; exact ⟨hb, A6, c6, A7, c7, A8, c8, he, hf.mono hk⟩
end Go.Proofs.Ytnfnhjhnfdkinaa.PConvBack

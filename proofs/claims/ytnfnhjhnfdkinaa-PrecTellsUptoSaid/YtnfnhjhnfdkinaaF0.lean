/-
  prec: types as values with their footprints; contracts of is, alike, Less over them; what Fuse answers.
-/
import Derived.Test.YtnfnhjhnfdkinaaPPrecTellsx2
import Derived.Deep.RegionHeld3
import Derived.Deep.MidRow
import Derived.Deep.LoopGhost
import Derived.Handy
import Derived.Laws.ResultCell
namespace Go.Proofs.Ytnfnhjhnfdkinaa.PPrecTells
open Go.RowKit Go.Proofs.YtnfnhjhnfdkinaaW.Mine Go.Proofs.YtnfnhjhnfdkinaaW.PrintWords Go.Proofs.YtnfnhjhnfdkinaaW.PrintLast Go.Proofs.YtnfnhjhnfdkinaaW.PrintMore
set_option linter.unusedVariables false
set_option linter.unusedSimpArgs false
abbrev Ty := S25
abbrev kTy := k25
/-- A type as a value. -/
abbrev tv (x : Ty) (A3 : Option Addr) (c3 : Nat) (A4 : Option Addr) (c4 : Nat) : Value := .agg #[.int .i64 x.f0, .int .i64 x.f1, .string x.f2, .slice A3 x.f3.length c3, .slice A4 x.f4.length c4]
abbrev tcells (x : Ty) (A3 : Option Addr) (c3 : Nat) (A4 : Option Addr) (c4 : Nat) : List Value := [.int .i64 x.f0, .int .i64 x.f1, .string x.f2, .slice A3 x.f3.length c3, .slice A4 x.f4.length c4]
/-- What it leads to is read so, in the blocks of ok. -/
def FT (w : World) (ok : Nat → Prop) (x : Ty) (A3 : Option Addr) (c3 : Nat) (A4 : Option Addr) (c4 : Nat) : Prop := x.f3.length ≤ c3 ∧ Kd.F Kd.string w ok A3 x.f3.length x.f3 ∧ x.f4.length ≤ c4 ∧ Kd.F kTy w ok A4 x.f4.length x.f4
section
variable {w w1 : World} {ok ok' : Nat → Prop} {x : Ty} {A3 A4 : Option Addr} {c3 c4 g : Nat}
theorem FT.below (h : FT w ok x A3 c3 A4 c4) (hb : Below w.heap.size w w1) : FT w1 ok x A3 c3 A4 c4 := ⟨h.1, Kd.F_below h.2.1 hb, h.2.2.1, Kd.F_below h.2.2.2 hb⟩
theorem FT.mono (h : FT w ok x A3 c3 A4 c4) (hk : ∀ k, ok k → ok' k) : FT w ok' x A3 c3 A4 c4 := ⟨h.1, Kd.F_mono h.2.1 hk, h.2.2.1, Kd.F_mono h.2.2.2 hk⟩
theorem FT.bound (h : FT w ok x A3 c3 A4 c4) : FT w (fun k => ok k ∧ k < w.heap.size) x A3 c3 A4 c4 := ⟨h.1, Kd.F_bound h.2.1, h.2.2.1, Kd.F_bound h.2.2.2⟩
theorem FT.far (h : FT w ok x A3 c3 A4 c4) {p : Addr} (hk : ∀ k, ok k → k ≠ p.block) (u : Value) : FT (w.setCell p u) ok x A3 c3 A4 c4 := ⟨h.1, Kd.F_far h.2.1 hk u, h.2.2.1, Kd.F_far h.2.2.2 hk u⟩
theorem FT.fk (h : FT w ok x A3 c3 A4 c4) : Kd.FK kTy w ok x (tcells x A3 c3 A4 c4) := k25_mkF w ok x h.1 h.2.1 h.2.2.1 h.2.2.2
theorem FT.of_fk {cs : List Value} (h : Kd.FK kTy w ok x cs) : ∃ A3 c3 A4 c4, cs = tcells x A3 c3 A4 c4 ∧ FT w ok x A3 c3 A4 c4 := by
  obtain ⟨A3, c3, A4, c4, e, h3, h3', h4, h4'⟩ := k25_openF h
  exact ⟨A3, c3, A4, c4, e, h3, h3', h4, h4'⟩
theorem heapTy : Kd.Heap kTy := Kd.heap_fix (fun _ hd => Kd.heap_iso _ (Kd.heap_pair (Kd.heap_int .i64) (Kd.heap_pair (Kd.heap_int .i64) (Kd.heap_pair Kd.heap_string (Kd.heap_pair (Kd.heap_slice _ Kd.heap_string) (Kd.heap_slice _ hd))))))
/-- An argument's reading, at the door. -/
theorem FT.start (h3 : x.f3.length ≤ c3) (g3 : Kd.string.C w A3 x.f3.length x.f3) (h4 : x.f4.length ≤ c4) (g4 : kTy.C w A4 x.f4.length x.f4) : FT w (fun k => k < w.heap.size) x A3 c3 A4 c4 :=
  ⟨h3, Kd.C_F Kd.heap_string g3, h4, Kd.C_F heapTy g4⟩
theorem FT.r3 (h : FT w ok x A3 c3 A4 c4) : Kd.string.C w A3 x.f3.length x.f3 := Kd.F_now h.2.1
theorem FT.r4 (h : FT w ok x A3 c3 A4 c4) : kTy.C w A4 x.f4.length x.f4 := Kd.F_now h.2.2.2
theorem is_c (h : FT w ok x A3 c3 A4 c4) : Calls Try.prog 55 #[tv x A3 c3 A4 c4] w fun e w' => e = .returned (.bool (same x dynTy)) ∧ Below w.heap.size w w' :=
  (prec_is.calls x.f0 x.f1 x.f2 A3 c3 x.f3 A4 c4 x.f4 _ w h.r3 h.1 h.r4 h.2.2.1 (prec_is_f x)).mono fun e w' k => k
theorem alike_c {y : Ty} {B3 B4 : Option Addr} {d3 d4 : Nat} (h : FT w ok x A3 c3 A4 c4) (k : FT w ok' y B3 d3 B4 d4) : Calls Try.prog 56 #[tv x A3 c3 A4 c4, tv y B3 d3 B4 d4] w fun e w' => e = .returned (.bool (likeTy x y)) ∧ Below w.heap.size w w' :=
  (prec_alike.calls x.f0 x.f1 x.f2 A3 c3 x.f3 A4 c4 x.f4 y.f0 y.f1 y.f2 B3 d3 y.f3 B4 d4 y.f4 _ w h.r3 h.1 h.r4 h.2.2.1 k.r3 k.1 k.r4 k.2.2.1 (prec_alike_f x y)).mono fun e w' k => k
end
/-- As many types as there may be, at each place. -/
inductive Sm : Ty → Prop
  | mk (x : Ty) (hl : x.f4.length * 80 ≤ 140737488351232) (hs : ∀ y, y ∈ x.f4 → Sm y) : Sm x
theorem Sm.len {x : Ty} (h : Sm x) : x.f4.length * 80 ≤ 140737488351232 := by cases h; assumption
theorem Sm.all {x : Ty} (h : Sm x) : ∀ y, y ∈ x.f4 → Sm y := by cases h; assumption
mutual
def fuse : Ty → Ty → Option Ty
  | ⟨a0, a1, a2, a3, a4⟩, y => if same y dynTy = true then some ⟨a0, a1, a2, a3, a4⟩ else if same ⟨a0, a1, a2, a3, a4⟩ dynTy = true then some y else if likeTy ⟨a0, a1, a2, a3, a4⟩ y = true then (fuseAll a4 y.f4).map (fun l => ⟨a0, a1, a2, a3, l⟩) else none
def fuseAll : List Ty → List Ty → Option (List Ty)
  | [], _ => some []
  | _ :: _, [] => some []
  | a :: l, b :: m => (fuse a b).bind fun t => (fuseAll l m).map fun r => t :: r
end
theorem fuse_eq (x y : Ty) : fuse x y = if same y dynTy = true then some x else if same x dynTy = true then some y else if likeTy x y = true then (fuseAll x.f4 y.f4).map (fun l => ⟨x.f0, x.f1, x.f2, x.f3, l⟩) else none := by
  cases x; simp only [fuse]
theorem like_len {x y : Ty} (h : likeTy x y = true) : x.f4.length = y.f4.length := by
  simp only [likeTy, Bool.and_eq_true, decide_eq_true_eq] at h
  exact h.2.2.2.2
/-- Five cells of a block. -/
theorem five {w : World} {g : Nat} {v0 v1 v2 v3 v4 : Value} {t : TypeId} (h : w.heap[g]? = some (.cells #[v0, v1, v2, v3, v4] t (0, 0))) :
    (w.cell? ⟨g, 0, none⟩ = some v0 ∧ w.cell? ⟨g, 1, none⟩ = some v1 ∧ w.cell? ⟨g, 2, none⟩ = some v2 ∧ w.cell? ⟨g, 3, none⟩ = some v3 ∧ w.cell? ⟨g, 4, none⟩ = some v4) ∧ (w.frozen? ⟨g, 0, none⟩ = false ∧ w.frozen? ⟨g, 1, none⟩ = false ∧ w.frozen? ⟨g, 2, none⟩ = false ∧ w.frozen? ⟨g, 3, none⟩ = false ∧ w.frozen? ⟨g, 4, none⟩ = false) ∧ g < w.heap.size :=
  ⟨⟨(blk_cell h 0).trans rfl, (blk_cell h 1).trans rfl, (blk_cell h 2).trans rfl, (blk_cell h 3).trans rfl, (blk_cell h 4).trans rfl⟩, ⟨blk_frozen h 0, blk_frozen h 1, blk_frozen h 2, blk_frozen h 3, blk_frozen h 4⟩, (Array.getElem?_eq_some_iff.1 h).1⟩
theorem chain {w a b : World} (h : Below w.heap.size w a) (k : Below a.heap.size a b) : Below w.heap.size w b := h.trans (k.mono h.size)
end Go.Proofs.Ytnfnhjhnfdkinaa.PPrecTells

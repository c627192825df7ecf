/-
  Subst: texts of this claim, put together by a program of this session. No conditions beyond what each lemma says.
-/
import Derived.Test.YtnfnhjhnfdkinaazSubst10
import Derived.Test.YtnfnhjhnfdkinaazSubst11
import Derived.Test.YtnfnhjhnfdkinaazSubst12
import Derived.Test.YtnfnhjhnfdkinaazSubst13
import Derived.Test.YtnfnhjhnfdkinaazSubst14
import Derived.Deep.RegionHeld3
import Derived.Deep.MidRow
import Derived.Deep.LoopGhost
import Derived.Handy
import Derived.Laws.ResultCell
import Derived.Lib.Strings
import Derived.RangeFuncNested
import Derived.RangeFuncBound
import Derived.RangeFuncCalls
import Derived.RangeFuncLeaves
import Derived.Shelf.Abstract
import Derived.Shelf.RegionOpen
import Derived.WalkKit
import Derived.OwnWalkIn
import Derived.TacticsInMore
import Derived.LoopNIn
import Derived.LoopIn
namespace Go.Proofs.Ytnfnhjhnfdkinaa.PSubstPuts
open Go.RowKit Go.Proofs.YtnfnhjhnfdkinaaW.Mine Go.Proofs.YtnfnhjhnfdkinaaW.PrintWords Go.Proofs.YtnfnhjhnfdkinaaW.PrintLast Go.Proofs.YtnfnhjhnfdkinaaW.PrintMore
set_option linter.unusedVariables false
set_option linter.unusedSimpArgs false
abbrev Ty := S25
abbrev kTy := k25
/-- A type as a value. -/
abbrev tv (x : Ty) (A3 : Option Addr) (c3 : Nat) (A4 : Option Addr) (c4 : Nat) : Value := .agg #[.int .i64 x.f0, .int .i64 x.f1, .string x.f2, .slice A3 x.f3.length c3, .slice A4 x.f4.length c4]
abbrev tcells (x : Ty) (A3 : Option Addr) (c3 : Nat) (A4 : Option Addr) (c4 : Nat) : List Value := [.int .i64 x.f0, .int .i64 x.f1, .string x.f2, .slice A3 x.f3.length c3, .slice A4 x.f4.length c4]
/-- What it leads to is read so, in the blocks of ok. -/
def FT (w : World) (ok : Nat → Prop) (x : Ty) (A3 : Option Addr) (c3 : Nat) (A4 : Option Addr) (c4 : Nat) : Prop := x.f3.length ≤ c3 ∧ Kd.F Kd.string w ok A3 x.f3.length x.f3 ∧ x.f4.length ≤ c4 ∧ Kd.F kTy w ok A4 x.f4.length x.f4
section
variable {w w1 : World} {ok ok' : Nat → Prop} {x : Ty} {A3 A4 : Option Addr} {c3 c4 g : Nat}
theorem FT.below (h : FT w ok x A3 c3 A4 c4) (hb : Below w.heap.size w w1) : FT w1 ok x A3 c3 A4 c4 := ⟨h.1, Kd.F_below h.2.1 hb, h.2.2.1, Kd.F_below h.2.2.2 hb⟩
theorem FT.mono (h : FT w ok x A3 c3 A4 c4) (hk : ∀ k, ok k → ok' k) : FT w ok' x A3 c3 A4 c4 := ⟨h.1, Kd.F_mono h.2.1 hk, h.2.2.1, Kd.F_mono h.2.2.2 hk⟩
theorem FT.bound (h : FT w ok x A3 c3 A4 c4) : FT w (fun k => ok k ∧ k < w.heap.size) x A3 c3 A4 c4 := ⟨h.1, Kd.F_bound h.2.1, h.2.2.1, Kd.F_bound h.2.2.2⟩
theorem FT.far (h : FT w ok x A3 c3 A4 c4) {p : Addr} (hk : ∀ k, ok k → k ≠ p.block) (u : Value) : FT (w.setCell p u) ok x A3 c3 A4 c4 := ⟨h.1, Kd.F_far h.2.1 hk u, h.2.2.1, Kd.F_far h.2.2.2 hk u⟩
theorem FT.fk (h : FT w ok x A3 c3 A4 c4) : Kd.FK kTy w ok x (tcells x A3 c3 A4 c4) := k25_mkF w ok x h.1 h.2.1 h.2.2.1 h.2.2.2
theorem FT.of_fk {cs : List Value} (h : Kd.FK kTy w ok x cs) : ∃ A3 c3 A4 c4, cs = tcells x A3 c3 A4 c4 ∧ FT w ok x A3 c3 A4 c4 := by
  obtain ⟨A3, c3, A4, c4, e, h3, h3', h4, h4'⟩ := k25_openF h
  exact ⟨A3, c3, A4, c4, e, h3, h3', h4, h4'⟩
theorem heapTy : Kd.Heap kTy := Kd.heap_fix (fun _ hd => Kd.heap_iso _ (Kd.heap_pair (Kd.heap_int .i64) (Kd.heap_pair (Kd.heap_int .i64) (Kd.heap_pair Kd.heap_string (Kd.heap_pair (Kd.heap_slice _ Kd.heap_string) (Kd.heap_slice _ hd))))))
/-- An argument's reading, at the door. -/
theorem FT.start (h3 : x.f3.length ≤ c3) (g3 : Kd.string.C w A3 x.f3.length x.f3) (h4 : x.f4.length ≤ c4) (g4 : kTy.C w A4 x.f4.length x.f4) : FT w (fun k => k < w.heap.size) x A3 c3 A4 c4 :=
  ⟨h3, Kd.C_F Kd.heap_string g3, h4, Kd.C_F heapTy g4⟩
theorem FT.r3 (h : FT w ok x A3 c3 A4 c4) : Kd.string.C w A3 x.f3.length x.f3 := Kd.F_now h.2.1
theorem FT.r4 (h : FT w ok x A3 c3 A4 c4) : kTy.C w A4 x.f4.length x.f4 := Kd.F_now h.2.2.2
end
/-- As many types as there may be, at each place. -/
inductive Sm : Ty → Prop
  | mk (x : Ty) (hl : x.f4.length * 80 ≤ 140737488351232) (hs : ∀ y, y ∈ x.f4 → Sm y) : Sm x
theorem Sm.len {x : Ty} (h : Sm x) : x.f4.length * 80 ≤ 140737488351232 := by cases h; assumption
theorem Sm.all {x : Ty} (h : Sm x) : ∀ y, y ∈ x.f4 → Sm y := by cases h; assumption
/-- Five cells of a block. -/
theorem five {w : World} {g : Nat} {v0 v1 v2 v3 v4 : Value} {t : TypeId} (h : w.heap[g]? = some (.cells #[v0, v1, v2, v3, v4] t (0, 0))) :
    (w.cell? ⟨g, 0, none⟩ = some v0 ∧ w.cell? ⟨g, 1, none⟩ = some v1 ∧ w.cell? ⟨g, 2, none⟩ = some v2 ∧ w.cell? ⟨g, 3, none⟩ = some v3 ∧ w.cell? ⟨g, 4, none⟩ = some v4) ∧ (w.frozen? ⟨g, 0, none⟩ = false ∧ w.frozen? ⟨g, 1, none⟩ = false ∧ w.frozen? ⟨g, 2, none⟩ = false ∧ w.frozen? ⟨g, 3, none⟩ = false ∧ w.frozen? ⟨g, 4, none⟩ = false) ∧ g < w.heap.size :=
  ⟨⟨(blk_cell h 0).trans rfl, (blk_cell h 1).trans rfl, (blk_cell h 2).trans rfl, (blk_cell h 3).trans rfl, (blk_cell h 4).trans rfl⟩, ⟨blk_frozen h 0, blk_frozen h 1, blk_frozen h 2, blk_frozen h 3, blk_frozen h 4⟩, (Array.getElem?_eq_some_iff.1 h).1⟩
theorem chain {w a b : World} (h : Below w.heap.size w a) (k : Below a.heap.size a b) : Below w.heap.size w b := h.trans (k.mono h.size)
theorem below_alloc1 (a : World) (o : Obj) : Below a.heap.size a (a.alloc o) := (Below.refl _ _).alloc (Nat.le_refl _) o
/-- A whole type is stored into a box. -/
theorem stored {w : World} {g : Nat} {t : TypeId} {z0 z1 z2 z3 z4 : Value} (h : w.heap[g]? = some (.cells #[z0, z1, z2, z3, z4] t (0, 0))) (v0 v1 v2 v3 v4 : Value) :
    ((((((w.setCell ⟨g, 0, none⟩ v0).setCell ⟨g, 1, none⟩ v1).setCell ⟨g, 2, none⟩ v2).setCell ⟨g, 3, none⟩ v3).setCell ⟨g, 4, none⟩ v4)).heap[g]? = some (.cells #[v0, v1, v2, v3, v4] t (0, 0)) := blk_set (blk_set (blk_set (blk_set (blk_set h 0 v0) 1 v1) 2 v2) 3 v3) 4 v4
theorem below_stored {w0 w : World} {g : Nat} (h : Below w0.heap.size w0 w) (hg : w0.heap.size ≤ g) (v0 v1 v2 v3 v4 : Value) : Below w0.heap.size w0 (((((w.setCell ⟨g, 0, none⟩ v0).setCell ⟨g, 1, none⟩ v1).setCell ⟨g, 2, none⟩ v2).setCell ⟨g, 3, none⟩ v3).setCell ⟨g, 4, none⟩ v4) :=
  below_set (below_set (below_set (below_set (below_set h hg) hg) hg) hg) hg
theorem FT.stored {w : World} {ok : Nat → Prop} {x : Ty} {A3 A4 : Option Addr} {c3 c4 g : Nat} (h : FT w ok x A3 c3 A4 c4) (hk : ∀ k, ok k → k ≠ g) (v0 v1 v2 v3 v4 : Value) : FT (((((w.setCell ⟨g, 0, none⟩ v0).setCell ⟨g, 1, none⟩ v1).setCell ⟨g, 2, none⟩ v2).setCell ⟨g, 3, none⟩ v3).setCell ⟨g, 4, none⟩ v4) ok x A3 c3 A4 c4 :=
  ((((h.far (p := ⟨g, 0, none⟩) hk v0).far (p := ⟨g, 1, none⟩) hk v1).far (p := ⟨g, 2, none⟩) hk v2).far (p := ⟨g, 3, none⟩) hk v3).far (p := ⟨g, 4, none⟩) hk v4
/-- An element of a list of types. -/
theorem elt {w : World} {ok : Nat → Prop} {A : Option Addr} {l : List Ty} (h : Kd.F kTy w ok A l.length l) (i : Nat) (hi : i < l.length) : ∃ ad X3 e3 X4 e4, A = some ad ∧ FT w ok l[i] X3 e3 X4 e4 ∧
    w.cell? (ad.add (i * 5)) = some (.int .i64 l[i].f0) ∧ w.cell? ⟨(ad.add (i * 5)).block, (ad.add (i * 5)).off + 1, none⟩ = some (.int .i64 l[i].f1) ∧ w.cell? ⟨(ad.add (i * 5)).block, (ad.add (i * 5)).off + 2, none⟩ = some (.string l[i].f2) ∧
    w.cell? ⟨(ad.add (i * 5)).block, (ad.add (i * 5)).off + 3, none⟩ = some (.slice X3 l[i].f3.length e3) ∧ w.cell? ⟨(ad.add (i * 5)).block, (ad.add (i * 5)).off + 4, none⟩ = some (.slice X4 l[i].f4.length e4) := by
  obtain ⟨ad, c, e, _, hfk, hc0, _⟩ := Kd.F_get h z25 i (by omega) (by omega)
  rw [getD_at z25 l i hi] at hfk
  obtain ⟨X3, e3, X4, e4, rfl, hft⟩ := FT.of_fk hfk
  have hc : ∀ j u, (tcells l[i] X3 e3 X4 e4)[j]? = some u → w.cell? (ad.add (i * 5 + j)) = some u := hc0
  exact ⟨ad, X3, e3, X4, e4, e, hft, hc 0 _ rfl, by rw [← add_field _ _ 1 (by omega)]; exact hc 1 _ rfl, by rw [← add_field _ _ 2 (by omega)]; exact hc 2 _ rfl, by rw [← add_field _ _ 3 (by omega)]; exact hc 3 _ rfl, by rw [← add_field _ _ 4 (by omega)]; exact hc 4 _ rfl⟩
theorem cell_up {w w' : World} {p : Addr} {v : Value} (hb : Below w.heap.size w w') (h : w.cell? p = some v) : w'.cell? p = some v := (hb.cell (World.block_lt_of_cell? w _ h)).trans h
theorem with_cont {G A : Prop} (g : G) (f : Aside0 G → A) : A := f ⟨g⟩
theorem and_of {A B : Prop} (f : A → B) (a : A) : A ∧ B := ⟨a, f a⟩
theorem below_call' {X u v : World} (h : Below X.heap.size X u) (hb : Below u.heap.size u v) : Below X.heap.size X v := chain h hb
theorem below_realloc' {X a : World} {o : Obj} (h : Below X.heap.size X (a.alloc o)) (hs : X.heap.size ≤ a.heap.size) (o' : Obj) : Below X.heap.size X (a.alloc o') := by
  have ha : Below X.heap.size X a := ⟨h.os, h.tape, h.output, hs, fun i hi => (Below.heap_alloc a o i (Nat.lt_of_lt_of_le hi hs)).symm.trans (h.block i hi)⟩
  exact ha.alloc hs o'
/-- Whatever lay ahead is as it was, but the blocks of S. -/
structure Kq (S : Nat → Prop) (w w' : World) : Prop where
  os : w'.os = w.os
  tape : w'.tape = w.tape
  output : w'.output = w.output
  size : w.heap.size ≤ w'.heap.size
  block : ∀ i, i < w.heap.size → ¬ S i → w'.heap[i]? = w.heap[i]?
section
variable {S S' : Nat → Prop} {w a b : World}
theorem Kq.refl (S : Nat → Prop) (w : World) : Kq S w w := ⟨rfl, rfl, rfl, Nat.le_refl _, fun _ _ _ => rfl⟩
theorem Kq.of_below (h : Below w.heap.size w a) : Kq S w a := ⟨h.os, h.tape, h.output, h.size, fun i hi _ => h.block i hi⟩
theorem Kq.trans (h : Kq S w a) (k : Kq S a b) : Kq S w b := ⟨k.os.trans h.os, k.tape.trans h.tape, k.output.trans h.output, Nat.le_trans h.size k.size, fun i hi hs => (k.block i (Nat.lt_of_lt_of_le hi h.size) hs).trans (h.block i hi hs)⟩
theorem Kq.mono (h : Kq S w a) (hs : ∀ k, S k → S' k) : Kq S' w a := ⟨h.os, h.tape, h.output, h.size, fun i hi hn => h.block i hi (fun hk => hn (hs i hk))⟩
theorem Kq.set (h : Kq S w a) {p : Addr} (hp : S p.block ∨ w.heap.size ≤ p.block) (v : Value) : Kq S w (a.setCell p v) :=
  ⟨h.os, h.tape, h.output, by simpa [World.setCell] using h.size, fun i hi hs => (Below.heap_setCell a p v i (fun e => by rcases hp with hp | hp; exact hs (e ▸ hp); omega)).trans (h.block i hi hs)⟩
theorem Kq.below {B : Nat} (h : Kq S w a) (hB : B ≤ w.heap.size) (hs : ∀ k, k < B → ¬ S k) : Below B w a := ⟨h.os, h.tape, h.output, h.size, fun i hi => h.block i (Nat.lt_of_lt_of_le hi hB) (hs i hi)⟩
theorem Kq.cell (h : Kq S w a) {p : Addr} {v : Value} (hc : w.cell? p = some v) (hp : ¬ S p.block) : a.cell? p = some v := by
  have hl := World.block_lt_of_cell? w _ hc
  have hb := h.block p.block hl hp
  unfold World.cell? at hc ⊢
  rw [hb]; exact hc
theorem Kq.blk (h : Kq S w a) {g : Nat} {o : Obj} (hc : w.heap[g]? = some o) (hp : ¬ S g) : a.heap[g]? = some o := (h.block g (blk_lt hc) hp).trans hc
theorem FT.kq {ok : Nat → Prop} {x : Ty} {A3 A4 : Option Addr} {c3 c4 : Nat} (h : FT w ok x A3 c3 A4 c4) (k : Kq S w a) (hk : ∀ i, ok i → ¬ S i) : FT a ok x A3 c3 A4 c4 :=
  ⟨h.1, Kd.F_step h.2.1 (fun i ho hl => k.block i hl (hk i ho)), h.2.2.1, Kd.F_step h.2.2.2 (fun i ho hl => k.block i hl (hk i ho))⟩
end
theorem one {w : World} {g : Nat} {v : Value} {t : TypeId} (h : w.heap[g]? = some (.cells #[v] t (0, 0))) : w.cell? ⟨g, 0, none⟩ = some v ∧ w.frozen? ⟨g, 0, none⟩ = false ∧ g < w.heap.size := ⟨(blk_cell h 0).trans rfl, blk_frozen h 0, blk_lt h⟩
theorem and_of' {A B : Prop} (f : A → B) (a : A) : A ∧ B := ⟨a, f a⟩
theorem Kq.then {S S' : Nat → Prop} {w a b : World} (h : Kq S w a) (k : Kq S' a b) (hs : ∀ i, i < w.heap.size → S' i → S i) : Kq S w b := ⟨k.os.trans h.os, k.tape.trans h.tape, k.output.trans h.output, Nat.le_trans h.size k.size, fun i hi hn => (k.block i (Nat.lt_of_lt_of_le hi h.size) (fun hk => hn (hs i hi hk))).trans (h.block i hi hn)⟩
theorem Kq.set5 {S : Nat → Prop} {w a : World} {g : Nat} (h : Kq S w a) (hp : S g ∨ w.heap.size ≤ g) (v0 v1 v2 v3 v4 : Value) : Kq S w (((((a.setCell ⟨g, 0, none⟩ v0).setCell ⟨g, 1, none⟩ v1).setCell ⟨g, 2, none⟩ v2).setCell ⟨g, 3, none⟩ v3).setCell ⟨g, 4, none⟩ v4) :=
  ((((h.set (p := ⟨g, 0, none⟩) hp v0).set (p := ⟨g, 1, none⟩) hp v1).set (p := ⟨g, 2, none⟩) hp v2).set (p := ⟨g, 3, none⟩) hp v3).set (p := ⟨g, 4, none⟩) hp v4
theorem blk_set5 {w : World} {g h : Nat} {o : Obj} (k : w.heap[h]? = some o) (hn : h ≠ g) (v0 v1 v2 v3 v4 : Value) : (((((w.setCell ⟨g, 0, none⟩ v0).setCell ⟨g, 1, none⟩ v1).setCell ⟨g, 2, none⟩ v2).setCell ⟨g, 3, none⟩ v3).setCell ⟨g, 4, none⟩ v4).heap[h]? = some o :=
  (Below.heap_setCell _ ⟨g, 4, none⟩ v4 h hn).trans ((Below.heap_setCell _ ⟨g, 3, none⟩ v3 h hn).trans ((Below.heap_setCell _ ⟨g, 2, none⟩ v2 h hn).trans ((Below.heap_setCell _ ⟨g, 1, none⟩ v1 h hn).trans ((Below.heap_setCell _ ⟨g, 0, none⟩ v0 h hn).trans k))))
theorem FT.set5 {w : World} {ok : Nat → Prop} {x : Ty} {A3 A4 : Option Addr} {c3 c4 g : Nat} (h : FT w ok x A3 c3 A4 c4) (hk : ∀ k, ok k → k ≠ g) (v0 v1 v2 v3 v4 : Value) : FT (((((w.setCell ⟨g, 0, none⟩ v0).setCell ⟨g, 1, none⟩ v1).setCell ⟨g, 2, none⟩ v2).setCell ⟨g, 3, none⟩ v3).setCell ⟨g, 4, none⟩ v4) ok x A3 c3 A4 c4 :=
  ((((h.far (p := ⟨g, 0, none⟩) hk v0).far (p := ⟨g, 1, none⟩) hk v1).far (p := ⟨g, 2, none⟩) hk v2).far (p := ⟨g, 3, none⟩) hk v3).far (p := ⟨g, 4, none⟩) hk v4
end Go.Proofs.Ytnfnhjhnfdkinaa.PSubstPuts
namespace Go.Proofs.Ytnfnhjhnfdkinaa.PSubstPuts
open Go.RowKit Go.Proofs.YtnfnhjhnfdkinaaW.Mine Go.Proofs.YtnfnhjhnfdkinaaW.PrintWords Go.Proofs.YtnfnhjhnfdkinaaW.PrintLast Go.Proofs.YtnfnhjhnfdkinaaW.PrintMore
set_option linter.unusedVariables false
set_option linter.unusedSimpArgs false
mutual
def same : S25 → S25 → Bool
  | ⟨a0, a1, a2, a3, a4⟩, ⟨b0, b1, b2, b3, b4⟩ => decide (a0 = b0) && (decide (a1 = b1) && (eqText a2 b2 && (eqTexts a3 b3 && sameAll a4 b4)))
def sameAll : List S25 → List S25 → Bool
  | [], [] => true
  | a :: l, b :: m => same a b && sameAll l m
  | _, _ => false
end
theorem sameAll_eq : ∀ (l m : List S25), sameAll l m = allTwo same l m
  | [], [] => by simp [sameAll, allTwo]
  | a :: l, b :: m => by simp [sameAll, allTwo, sameAll_eq l m]
  | [], _ :: _ => by simp [sameAll, allTwo]
  | _ :: _, [] => by simp [sameAll, allTwo]
theorem same_eq (x y : S25) : same x y = (decide (x.f0 = y.f0) && (decide (x.f1 = y.f1) && (eqText x.f2 y.f2 && (eqTexts x.f3 y.f3 && allTwo same x.f4 y.f4)))) := by
  cases x; cases y
  simp only [same, sameAll_eq]
theorem size_args : ∀ (x y : S25), y ∈ x.f4 → SizeOf.sizeOf y < SizeOf.sizeOf x
  | ⟨a0, a1, a2, a3, a4⟩, y, h => by
    have h2 : y ∈ a4 := h
    have h3 := List.sizeOf_lt_of_mem h2
    rw [S25.mk.sizeOf_spec]
    omega
theorem text_iff (a b : ByteArray) : eqText a b = true ↔ a = b := by
  unfold eqText
  constructor
  · intro h
    have h := eq_of_beq h
    apply ByteArray.ext
    apply Array.toList_inj.1
    rw [Lib.toList_data, Lib.toList_data] at h
    exact h
  · rintro rfl; simp
theorem texts_iff : ∀ (l m : List ByteArray), eqTexts l m = true ↔ l = m
  | [], [] => by simp [eqTexts, allTwo]
  | a :: l, b :: m => by
    have := texts_iff l m
    unfold eqTexts at this ⊢
    simp only [allTwo, Bool.and_eq_true, text_iff, this, List.cons.injEq]
  | [], _ :: _ => by simp [eqTexts, allTwo]
  | _ :: _, [] => by simp [eqTexts, allTwo]
mutual
theorem same_iff : ∀ (x y : S25), same x y = true ↔ x = y
  | ⟨a0, a1, a2, a3, a4⟩, ⟨b0, b1, b2, b3, b4⟩ => by
    simp only [same, Bool.and_eq_true, decide_eq_true_eq, text_iff, texts_iff, sameAll_iff a4 b4, S25.mk.injEq]
theorem sameAll_iff : ∀ (l m : List S25), sameAll l m = true ↔ l = m
  | [], [] => by simp [sameAll]
  | a :: l, b :: m => by
    simp only [sameAll, Bool.and_eq_true, same_iff a b, sameAll_iff l m, List.cons.injEq]
  | [], _ :: _ => by simp [sameAll]
  | _ :: _, [] => by simp [sameAll]
end
theorem two_step {α β : Type} (p : α → β → Bool) (l : List α) (m : List β) (i : Nat) (h : i < l.length) (h' : i < m.length) : allTwo p (l.drop i) (m.drop i) = (p l[i] m[i] && allTwo p (l.drop (i + 1)) (m.drop (i + 1))) := by
  rw [List.drop_eq_getElem_cons h, List.drop_eq_getElem_cons h']; rfl
theorem two_end {α β : Type} (p : α → β → Bool) (l : List α) (m : List β) (i : Nat) (h : l.length ≤ i) (h' : m.length ≤ i) : allTwo p (l.drop i) (m.drop i) = true := by
  rw [List.drop_eq_nil_of_le h, List.drop_eq_nil_of_le h']; rfl
theorem wrap_up {i : Nat} (h : i < 9223372036854775807) : wrap64 ((i : Int) + 1) = ((i + 1 : Nat) : Int) := by unfold wrap64; omega
theorem rdT_at (l : List S25) (i : Nat) (h : i < l.length) : rd_T25 l (i : Int) = l[i] := getD_at _ l i h
/-! labels -/
theorem labels_l (xs ys : List ByteArray) (hn : xs.length = ys.length) (hb : xs.length ≤ 140737488351232) (d i : Nat) (hd : d + i = xs.length) :
    Ev (fun k => limbeckref01_Same.l0 k xs ys i) (eqTexts (xs.drop i) (ys.drop i)) := by
  unfold eqTexts
  induction d generalizing i with
  | zero =>
    rw [two_end _ _ _ _ (by omega) (by omega)]
    exact Ev.step (fun _ => rfl) (Ev.neg (by omega) (Ev.step (f := fun _ => some true) (fun _ => rfl) (Ev.rets rfl)))
  | succ d ih =>
    rw [two_step _ _ _ i (by omega) (by omega)]
    refine Ev.step (fun _ => rfl) (Ev.pos (by omega) ?_)
    rw [decide_eq_true (show (i : Int) < (ys.length : Int) by omega)]
    refine Ev.step (fun _ => rfl) (Ev.pos (by omega) (Ev.pos (by omega) ?_))
    rw [rdOf_at _ xs i (by omega), rdOf_at _ ys i (by omega), wrap_up (by omega)]
    by_cases e : xs[i].toList = ys[i].toList
    · rw [show eqText xs[i] ys[i] = true by unfold eqText; rw [e]; simp, Bool.true_and]
      exact Ev.pos e (ih (i + 1) (by omega))
    · rw [show eqText xs[i] ys[i] = false by unfold eqText; exact beq_eq_false_iff_ne.mpr e, Bool.false_and]
      exact Ev.neg e (Ev.rets rfl)
theorem labels_f (xs ys : List ByteArray) (hb : xs.length ≤ 140737488351232) : Ev (fun k => limbeckref01_Same.f k xs ys) (eqTexts xs ys) := by
  unfold limbeckref01_Same.f
  by_cases h : xs.length = ys.length
  · exact Ev.pos (by omega) (labels_l xs ys h hb xs.length 0 (by omega))
  · rw [show eqTexts xs ys = false from allTwo_ne h]
    exact Ev.neg (by omega) (Ev.rets rfl)
/-- Lists as long as there may be, at each place. -/
inductive Okt : S25 → Prop
  | mk (x : S25) (h3 : x.f3.length ≤ 140737488351232) (h4 : x.f4.length * 80 ≤ 140737488351232) (hs : ∀ y, y ∈ x.f4 → Okt y) : Okt x
theorem Okt.l3 {x : S25} (h : Okt x) : x.f3.length ≤ 140737488351232 := by cases h; assumption
theorem Okt.l80 {x : S25} (h : Okt x) : x.f4.length * 80 ≤ 140737488351232 := by cases h; assumption
theorem Okt.l4 {x : S25} (h : Okt x) : x.f4.length ≤ 140737488351232 := by have := h.l80; omega
theorem Okt.all {x : S25} (h : Okt x) : ∀ y, y ∈ x.f4 → Okt y := by cases h; assumption
/-! types -/
abbrev evSame (x y : S25) : Prop := Ev (fun k => limbeckref04_Same.f k x.f0 x.f1 x.f2 x.f3 x.f4 y.f0 y.f1 y.f2 y.f3 y.f4) (same x y)
theorem types_l (x y : S25) (hn : x.f4.length = y.f4.length) (hb : x.f4.length ≤ 140737488351232) (hs : ∀ u, u ∈ x.f4 → ∀ v, evSame u v) (d i : Nat) (hd : d + i = x.f4.length) :
    Ev (fun k => limbeckref04_Same.l0 k i x.f0 x.f1 x.f2 x.f3 x.f4 y.f0 y.f1 y.f2 y.f3 y.f4) (allTwo same (x.f4.drop i) (y.f4.drop i)) := by
  induction d generalizing i with
  | zero =>
    rw [two_end _ _ _ _ (by omega) (by omega)]
    exact Ev.step (fun _ => rfl) (Ev.neg (by omega) (Ev.step (f := fun _ => some true) (fun _ => rfl) (Ev.rets rfl)))
  | succ d ih =>
    rw [two_step _ _ _ i (by omega) (by omega)]
    refine Ev.step (fun _ => rfl) (Ev.pos (by omega) ?_)
    rw [decide_eq_true (show (i : Int) < (y.f4.length : Int) by omega)]
    refine Ev.step (fun _ => rfl) (Ev.pos (by omega) (Ev.pos (by omega) ?_))
    rw [rdT_at x.f4 i (by omega), rdT_at y.f4 i (by omega), wrap_up (by omega)]
    refine Ev.bind (hs _ (List.getElem_mem (by omega)) y.f4[i]) ?_
    cases e : same x.f4[i] y.f4[i] with
    | true => rw [Bool.true_and]; exact Ev.pos rfl (ih (i + 1) (by omega))
    | false => rw [Bool.false_and]; exact Ev.neg (by decide) (Ev.rets rfl)
theorem types_f : ∀ (n : Nat) (x : S25), SizeOf.sizeOf x < n → Okt x → ∀ y, evSame x y
  | 0, _, h, _, _ => absurd h (Nat.not_lt_zero _)
  | n + 1, x, h, hb, y => by
    have ff : ∀ a0 a1 a2 a3 a4 b0 b1 b2 b3 b4, Ev (fun k => limbeckref04_Same.j0 k true a0 a1 a2 a3 a4 b0 b1 b2 b3 b4) false := fun a0 a1 a2 a3 a4 b0 b1 b2 b3 b4 => Ev.step (f := fun _ => some false) (fun _ => rfl) (Ev.rets rfl)
    unfold evSame
    rw [same_eq]
    refine Ev.step (fun _ => rfl) ?_
    by_cases e0 : x.f0 = y.f0
    · rw [decide_eq_true e0, Bool.true_and]
      refine Ev.pos e0 ?_
      by_cases e1 : x.f1 = y.f1
      · rw [decide_eq_true e1, Bool.true_and]
        refine Ev.pos e1 ?_
        by_cases e2 : x.f2.toList = y.f2.toList
        · rw [show eqText x.f2 y.f2 = true by unfold eqText; rw [e2]; simp, Bool.true_and]
          refine Ev.pos e2 (Ev.bind (labels_f x.f3 y.f3 hb.l3) ?_)
          cases e3 : eqTexts x.f3 y.f3 with
          | true =>
            rw [Bool.true_and]
            refine Ev.pos rfl ?_
            by_cases e4 : x.f4.length = y.f4.length
            · rw [show ((x.f4.length : Int) != (y.f4.length : Int)) = false by rw [e4]; simp]
              refine Ev.step (f := fun k => limbeckref04_Same.l0 k 0 x.f0 x.f1 x.f2 x.f3 x.f4 y.f0 y.f1 y.f2 y.f3 y.f4) (fun _ => rfl) ?_
              exact types_l x y e4 hb.l4 (fun u hu v => types_f n u (by have := size_args x u hu; omega) (hb.all u hu) v) x.f4.length 0 (by omega)
            · rw [show ((x.f4.length : Int) != (y.f4.length : Int)) = true by rw [bne_iff_ne]; omega, allTwo_ne e4]
              exact ff _ _ _ _ _ _ _ _ _ _
          | false => rw [Bool.false_and]; exact Ev.neg (by decide) (ff _ _ _ _ _ _ _ _ _ _)
        · rw [show eqText x.f2 y.f2 = false by unfold eqText; exact beq_eq_false_iff_ne.mpr e2, Bool.false_and]
          exact Ev.neg e2 (ff _ _ _ _ _ _ _ _ _ _)
      · rw [decide_eq_false e1, Bool.false_and]; exact Ev.neg e1 (ff _ _ _ _ _ _ _ _ _ _)
    · rw [decide_eq_false e0, Bool.false_and]; exact Ev.neg e0 (ff _ _ _ _ _ _ _ _ _ _)
theorem wrap_ok {i : Int} (h0 : -9223372036854775808 ≤ i) (h1 : i ≤ 9223372036854775807) : wrap64 i = i := by unfold wrap64; omega
theorem rdT_mem (l : List S25) (i : Nat) (h : i < l.length) : rd_T25 l (i : Int) ∈ l := by
  unfold rd_T25
  rw [Int.toNat_natCast, List.getD_eq_getElem?_getD, List.getElem?_eq_getElem h]
  exact List.getElem_mem h
theorem much_l1 (a0 a1 : Int) (a2 : ByteArray) (l3 : List ByteArray) (l4 : List S25) (hl : l4.length * 80 ≤ 140737488351232) (hs : ∀ y, y ∈ l4 → ∃ r, Ev (fun k => limbecklaw04_Much.f k y.f0 y.f1 y.f2 y.f3 y.f4) r) (d i : Nat) (hd : d + i = l4.length) (x3 : Int) :
    ∃ r, Ev (fun k => limbecklaw04_Much.l1 k x3 i a0 a1 a2 l3 l4) r := by
  induction d generalizing i x3 with
  | zero => exact ⟨_, Ev.step (fun _ => rfl) (Ev.neg (by omega) (Ev.rets rfl))⟩
  | succ d ih =>
    by_cases h : x3 < 3000
    · obtain ⟨t, ht⟩ := hs _ (rdT_mem l4 i (by omega))
      obtain ⟨r, hr⟩ := ih (i + 1) (by omega) (wrap64 (x3 + t))
      refine ⟨r, Ev.step (fun _ => rfl) (Ev.pos (by omega) (Ev.pos h (Ev.pos (by omega) (Ev.bind ht ?_))))⟩
      rw [wrap_ok (show -9223372036854775808 ≤ (i : Int) + 1 by omega) (by omega)]
      exact hr
    · exact ⟨_, Ev.step (fun _ => rfl) (Ev.pos (by omega) (Ev.neg h (Ev.rets rfl)))⟩
theorem much_l0 (a0 a1 : Int) (a2 : ByteArray) (l3 : List ByteArray) (l4 : List S25) (hl : l4.length * 80 ≤ 140737488351232) (hs : ∀ y, y ∈ l4 → ∃ r, Ev (fun k => limbecklaw04_Much.f k y.f0 y.f1 y.f2 y.f3 y.f4) r) (d i : Nat) (hd : d + i = l3.length) (x3 : Int) :
    ∃ r, Ev (fun k => limbecklaw04_Much.l0 k x3 i a0 a1 a2 l3 l4) r := by
  have hj : ∀ x, ∃ r, Ev (fun k => limbecklaw04_Much.j1 k x a0 a1 a2 l3 l4) r := fun x => by
    obtain ⟨r, hr⟩ := much_l1 a0 a1 a2 l3 l4 hl hs l4.length 0 (by omega) x
    exact ⟨r, Ev.step (fun _ => rfl) hr⟩
  induction d generalizing i x3 with
  | zero =>
    obtain ⟨r, hr⟩ := hj x3
    exact ⟨r, Ev.step (fun _ => rfl) (Ev.neg (by omega) hr)⟩
  | succ d ih =>
    by_cases h : (i : Int) < 1000
    · obtain ⟨r, hr⟩ := ih (i + 1) (by omega) (wrap64 (x3 + (wrap64 (((rdOf ByteArray.empty l3 i).size : Int) / 8))))
      refine ⟨r, Ev.step (fun _ => rfl) (Ev.pos (by omega) (Ev.pos h (Ev.pos (by omega) ?_)))⟩
      rw [wrap_ok (show -9223372036854775808 ≤ (i : Int) + 1 by omega) (by omega)]
      exact hr
    · obtain ⟨r, hr⟩ := hj x3
      exact ⟨r, Ev.step (fun _ => rfl) (Ev.pos (by omega) (Ev.neg h hr))⟩
theorem much_told : ∀ (n : Nat) (x : S25), SizeOf.sizeOf x < n → Okt x → ∃ r, Ev (fun k => limbecklaw04_Much.f k x.f0 x.f1 x.f2 x.f3 x.f4) r
  | 0, _, h, _ => absurd h (Nat.not_lt_zero _)
  | n + 1, x, h, ho => by
    obtain ⟨r, hr⟩ := much_l0 x.f0 x.f1 x.f2 x.f3 x.f4 ho.l80 (fun y hy => much_told n y (by have := size_args x y hy; omega) (ho.all y hy)) x.f3.length 0 (by omega) (wrap64 ((wrap64 (1 + (wrap64 ((x.f2.size : Int) / 8)))) + (x.f3.length : Int)))
    exact ⟨r, Ev.step (fun _ => rfl) hr⟩
theorem told {x : S25} (o : Okt x) : ∃ k r, limbecklaw04_Much.f k x.f0 x.f1 x.f2 x.f3 x.f4 = some r := by
  obtain ⟨r, hr⟩ := much_told _ x (Nat.lt_succ_self _) o
  obtain ⟨k, hk⟩ := hr.rounds
  exact ⟨k, r, hk⟩
theorem same_told {x : S25} (o : Okt x) (y : S25) : ∃ k, limbeckref04_Same.f k x.f0 x.f1 x.f2 x.f3 x.f4 y.f0 y.f1 y.f2 y.f3 y.f4 = some (same x y) := (types_f _ x (Nat.lt_succ_self _) o y).rounds
theorem same_refl (x : S25) : same x x = true := (same_iff x x).2 rfl
end Go.Proofs.Ytnfnhjhnfdkinaa.PSubstPuts
namespace Go.Proofs.Ytnfnhjhnfdkinaa.PSubstPuts
open Go.RowKit Go.Shelf Go.Proofs.YtnfnhjhnfdkinaaW.Mine Go.Proofs.YtnfnhjhnfdkinaaW.PrintWords Go.Proofs.YtnfnhjhnfdkinaaW.PrintLast Go.Proofs.YtnfnhjhnfdkinaaW.PrintMore
attribute [local go_sem] Oper.semAt_some
set_option linter.unusedVariables false
set_option linter.unusedSimpArgs false
mutual
def nodes : Ty → Nat
  | ⟨_, _, _, _, l⟩ => nodesAll l + 1
def nodesAll : List Ty → Nat
  | [] => 0
  | a :: l => nodes a + nodesAll l
end
theorem nodes_eq (x : Ty) : nodes x = nodesAll x.f4 + 1 := by cases x; simp only [nodes]
theorem nodesAll_drop (l : List Ty) (i : Nat) (hi : i < l.length) : nodesAll (l.drop i) = nodes l[i] + nodesAll (l.drop (i + 1)) := by
  rw [List.drop_eq_getElem_cons hi]
  simp only [nodesAll]
theorem yield_any {m : Nat} (m' : Nat) {P : Program} {l : Nat} {args : Array Value} {W : World} {R : Ending → World → Prop} (h : YieldAt Fence.wide m P l args W R) : YieldAt Fence.wide m' P l args W R := by
  obtain ⟨fn, tmps, assign, body, hy, hR⟩ := h
  exact ⟨fn, tmps, assign, body, hy, hR.1, fun c cs _ => hR.2 c cs (room_wide _)⟩
/-- What a round keeps: all below n, and all cells but those of block B. -/
def KC (n B : Nat) (W W' : World) : Prop := Below n W W' ∧ W.heap.size ≤ W'.heap.size ∧ ∀ i, i ≠ B → ∀ c t r, W.heap[i]? = some (.cells c t r) → W'.heap[i]? = some (.cells c t r)
theorem KC.trans {n B : Nat} {W V U : World} (h : KC n B W V) (k : KC n B V U) : KC n B W U := ⟨h.1.trans k.1, Nat.le_trans h.2.1 k.2.1, fun i hi c t r hc => k.2.2 i hi c t r (h.2.2 i hi c t r hc)⟩
theorem KC.refl (n B : Nat) (W : World) : KC n B W W := ⟨Below.refl _ _, Nat.le_refl _, fun _ _ _ _ _ h => h⟩
theorem KC.alloc {n B : Nat} {W V : World} (h : KC n B W V) (hn : n ≤ V.heap.size) (o : Obj) : KC n B W (V.alloc o) := ⟨h.1.alloc hn o, by rw [World.size_alloc]; exact Nat.le_succ_of_le h.2.1, fun i hi c t r hc => blk_alloc (h.2.2 i hi c t r hc) o⟩
theorem KC.put {n B : Nat} {w : World} (hn : n ≤ w.heap.size) (W : World) (l : Nat) (o o' : Obj) (hl : w.heap.size ≤ l) (h : W.heap[l]? = some o) (hc : o.isCells = false) (hw : o.isWalk = false) : KC n B W (W.putObj l o') := by
  refine ⟨belowK_b hn W l o o' hl h hc hw, (grownBy_putObj' W l o').size, fun i hi c t r hk => ?_⟩
  refine ((grownBy_putObj' W l o').block i (blk_lt hk) (fun e => ?_)).trans hk
  cases e
  rw [h] at hk
  cases hk
  cases hc
set_option maxRecDepth 100000 in
set_option maxHeartbeats 4000000 in
theorem go_walks (w0 : World) (B l N : Nat) (hB : w0.heap.size ≤ B) (J Jx : List Value → World → Prop) (hA : ∀ pre W o, J pre W → J pre (W.alloc o))
    (hY : ∀ m pre x W, J pre W → pre.length < N → YieldAt Fence.wide m Try.prog l #[x] W fun e W' => (e = .returned (.bool true) ∧ J (pre ++ [x]) W' ∧ KC w0.heap.size B W W') ∨ (e = .returned (.bool false) ∧ Jx (pre ++ [x]) W')) :
    ∀ (k : Nat) (t : Ty), SizeOf.sizeOf t < k → Sm t → ∀ (A3 : Option Addr) (c3 : Nat) (A4 : Option Addr) (c4 : Nat), FT w0 (fun i => i < w0.heap.size) t A3 c3 A4 c4 → ∀ (n : Nat) (pre : List Value) (W : World), Below w0.heap.size w0 W → B < W.heap.size → J pre W → pre.length + nodes t ≤ N →
    CallsIn Fence.wide n Try.prog 116 #[tv t A3 c3 A4 c4, .func (.yield l) #[] #[]] W fun e W' => (e = .returned (.bool true) ∧ (∃ ys : List Value, ys.length = nodes t ∧ J (pre ++ ys) W') ∧ KC w0.heap.size B W W') ∨ (e = .returned (.bool false) ∧ ∃ q : List Value, q.length ≤ nodes t ∧ Jx (pre ++ q) W')
  | 0, _, h, _ => absurd h (Nat.not_lt_zero _)
  | k + 1, t, hk, hsm => by
    intro A3 c3 A4 c4 hf n pre W hb hBW hJ hN
    have hW1 := hA pre W (.cells #[.int .i64 t.f0, .int .i64 t.f1, .string t.f2, .slice A3 t.f3.length c3, .slice A4 t.f4.length c4] 25) hJ
    have kT := blk_new W (.cells #[.int .i64 t.f0, .int .i64 t.f1, .string t.f2, .slice A3 t.f3.length c3, .slice A4 t.f4.length c4] 25)
    have hb1 := hb.trans ((below_alloc1 W (.cells #[.int .i64 t.f0, .int .i64 t.f1, .string t.f2, .slice A3 t.f3.length c3, .slice A4 t.f4.length c4] 25)).mono hb.size)
    have hKC : KC w0.heap.size B W (W.alloc (.cells #[.int .i64 t.f0, .int .i64 t.f1, .string t.f2, .slice A3 t.f3.length c3, .slice A4 t.f4.length c4] 25)) := (KC.refl _ _ W).alloc hb.size _
    have hne := nodes_eq t
    have hN1 : pre.length < N := by omega
    obtain ⟨⟨p0, p1, p2, p3, p4⟩, _, lp⟩ := five kT
    obtain ⟨fn, tmps, assign, body, hy, hR⟩ := hY (n - 1) pre (tv t A3 c3 A4 c4) _ hW1 hN1
    have HNE := Aside0.mk hne
    clear hne
    refine callsIn_of_wp Try.func116 rfl trivial ?_ rfl
    simp only [Try.ntmps116, List.size_toArray, List.length_cons, List.length_nil, Nat.reduceAdd, Nat.reduceSub, Array.replicate_succ, Array.replicate_zero, List.push_toArray, List.append_toArray, List.nil_append, List.cons_append]
    gi_wp2
    refine ⟨fun h => by simp [Fence.wide] at h, hR.mono ?_⟩
    clear hR hy
    rintro e W2 (⟨rfl, hJ2, hk2⟩ | ⟨rfl, hx2⟩)
    · clear p0 p1 p2 p3 p4 lp
      replace kT := hk2.2.2 W.heap.size (by omega) _ _ _ kT
      have hk1 := hKC.trans hk2
      have hb2 := hb1.trans hk2.1
      obtain ⟨⟨p0, p1, p2, p3, p4⟩, _, lp⟩ := five kT
      have hsl := hsm.len
      gi_wp2
      clear p0 p1 p2 p3 p4 lp kT
      gi_loopw [14] (fun v wr => ∃ (i : Nat) (ys : List Value), v = .int .i64 i ∧ i ≤ t.f4.length ∧ ys.length + nodesAll (t.f4.drop i) = nodes t ∧ J (pre ++ ys) wr ∧ KC w0.heap.size B W wr) (fun v wr => match v with | .int _ i => t.f4.length - i.toNat | _ => 0)
      case atStart => exact ⟨0, [tv t A3 c3 A4 c4], rfl, Nat.zero_le _, by rw [List.drop_zero, HNE.out]; simp [Nat.add_comm], hJ2, hk1⟩
      case round =>
        clear hJ2 hk1 hb2 hk2
        obtain ⟨i, ys, rfl, hi, hys, hJr, hkr⟩ := hrel
        have hbr := hb.trans hkr.1
        by_cases hlt : i < t.f4.length
        · have ci : decide ((i : Int) < (t.f4.length : Int)) = true := decide_eq_true (by omega)
          obtain ⟨ad, X3, e3, X4, e4, hAd, fx, x0, x1, x2, x3, x4⟩ := elt hf.2.2.2 i hlt
          subst hAd
          have hb' := hbr
          replace x0 := cell_up hbr x0
          replace x1 := cell_up hbr x1
          replace x2 := cell_up hbr x2
          replace x3 := cell_up hbr x3
          replace x4 := cell_up hbr x4
          have i0 : (0 : Int) ≤ (i : Int) := by omega
          have i1 : (i : Int) < (t.f4.length : Int) := by omega
          have kX := blk_new wr (.cells #[.int .i64 t.f4[i].f0, .int .i64 t.f4[i].f1, .string t.f4[i].f2, .slice X3 t.f4[i].f3.length e3, .slice X4 t.f4[i].f4.length e4] 25)
          have hJX := hA _ wr (.cells #[.int .i64 t.f4[i].f0, .int .i64 t.f4[i].f1, .string t.f4[i].f2, .slice X3 t.f4[i].f3.length e3, .slice X4 t.f4[i].f4.length e4] 25) hJr
          have hkX := hkr.alloc hbr.size (.cells #[.int .i64 t.f4[i].f0, .int .i64 t.f4[i].f1, .string t.f4[i].f2, .slice X3 t.f4[i].f3.length e3, .slice X4 t.f4[i].f4.length e4] 25)
          have hnd := nodesAll_drop t.f4 i hlt
          have hrec := go_walks w0 B l N hB J Jx hA hY k t.f4[i] (by have := size_args t t.f4[i] (List.getElem_mem hlt); omega) (hsm.all _ (List.getElem_mem hlt)) X3 e3 X4 e4 (fx.mono (fun _ h => h)) (n - 1) (pre ++ ys) _ (hb.trans hkX.1) (Nat.lt_of_lt_of_le hBW hkX.2.1) hJX (by rw [List.length_append]; omega)
          have HND := Aside0.mk hnd
          have HYS := Aside0.mk hys
          obtain ⟨⟨q0, q1, q2, q3, q4⟩, _, lq⟩ := five kX
          clear hnd hys
          gi_wp2_with ((first | refine ⟨trivial, fun h => by simp [Fence.wide] at h, ?_⟩ | refine ⟨fun h => by simp [Fence.wide] at h, ?_⟩); gi_at_call 116; refine hrec.mono ?_; clear hrec; rintro e W3 (⟨rfl, ⟨zs, hzl, hJ3⟩, hk3⟩ | ⟨rfl, q, hq, hx3⟩))
          · gi_wp2
            go_roundw
            case rel => exact ⟨i + 1, ys ++ zs, (by first | rfl | (push_cast; rfl)), hlt, by rw [List.length_append, hzl]; have := HND.out; have := HYS.out; omega, by rw [← List.append_assoc]; exact hJ3, hkX.trans hk3⟩
            case measure =>
              simp only
              omega
          · gi_wp2
            go_ret
            exact .inr ⟨rfl, ys ++ q, by rw [List.length_append]; have := HND.out; have := HYS.out; omega, by rw [← List.append_assoc]; exact hx3⟩
        · have cn : decide ((i : Int) < (t.f4.length : Int)) = false := decide_eq_false (by omega)
          have e0 : t.f4.drop i = [] := List.drop_eq_nil_of_le (by omega)
          rw [e0] at hys
          have HYS := Aside0.mk hys
          clear e0 hys
          gi_wp2
          go_ret
          exact .inl ⟨rfl, ⟨ys, by have := HYS.out; simpa [nodesAll] using this, hJr⟩, hkr⟩
    · gi_wp2
      go_ret
      exact .inr ⟨rfl, [tv t A3 c3 A4 c4], by rw [HNE.out]; simp, hx2⟩
end Go.Proofs.Ytnfnhjhnfdkinaa.PSubstPuts
namespace Go.Proofs.Ytnfnhjhnfdkinaa.PSubstPuts
open Go.RowKit Go.Shelf Go.Proofs.YtnfnhjhnfdkinaaW.Mine Go.Proofs.YtnfnhjhnfdkinaaW.PrintWords Go.Proofs.YtnfnhjhnfdkinaaW.PrintLast Go.Proofs.YtnfnhjhnfdkinaaW.PrintMore
attribute [local go_sem] Oper.semAt_some
set_option linter.unusedVariables false
set_option linter.unusedSimpArgs false
abbrev tarr (t : Ty) (A3 : Option Addr) (c3 : Nat) (A4 : Option Addr) (c4 : Nat) : Array Value := #[.int .i64 t.f0, .int .i64 t.f1, .string t.f2, .slice A3 t.f3.length c3, .slice A4 t.f4.length c4]
theorem kept_blk {A B : World} {g : Nat} {cs : Array Value} {t : TypeId} {fr : Nat × Nat} {row : Option Nat} (h : A.heap[g]? = some (.cells cs t fr)) (hg : A.grownBy B row) (hr : ∀ r, row = some r → ∃ o : Obj, A.heap[r]? = some o ∧ o.isCells = false) : B.heap[g]? = some (.cells cs t fr) :=
  (hg.block g (blk_lt h) (fun e => by obtain ⟨o, ho, hc⟩ := hr g e.symm; rw [h] at ho; cases ho; cases hc)).trans h
set_option maxRecDepth 100000 in
set_option maxHeartbeats 4000000 in
theorem nodes1_in (w0 : World) (B l Bn n : Nat) (hB : w0.heap.size ≤ B) (J Jx : List Value → World → Prop) (hA : ∀ pre W o, J pre W → J pre (W.alloc o)) (t : Ty) (hsm : Sm t) (A3 : Option Addr) (c3 : Nat) (A4 : Option Addr) (c4 : Nat) (hf : FT w0 (fun i => i < w0.heap.size) t A3 c3 A4 c4)
    (hY : ∀ pre x W, J pre W → pre.length < nodes t → YieldAt Fence.wide (n - 1) Try.prog l #[x] W fun e W' => (e = .returned (.bool true) ∧ J (pre ++ [x]) W' ∧ KC w0.heap.size B W W') ∨ (e = .returned (.bool false) ∧ Jx (pre ++ [x]) W'))
    (W : World) (hb : Below w0.heap.size w0 W) (hBW : B < W.heap.size) (hBn : W.heap[Bn]? = some (.cells (tarr t A3 c3 A4 c4) 25 (0, 0))) (h0 : J [] W) :
    CallsIn Fence.wide n Try.prog 115 #[.func (.yield l) #[] #[], .pointer (some ⟨Bn, 0, none⟩)] W fun e W' => (∃ v, e = .returned v) ∧ ((∃ ys : List Value, ys.length = nodes t ∧ J ys W') ∨ (∃ q : List Value, q.length ≤ nodes t ∧ Jx q W')) := by
  have hp := go_walks w0 B l (nodes t) hB J Jx hA (fun m pre x W hj hl => yield_any m (hY pre x W hj hl)) _ t (Nat.lt_succ_self _) hsm A3 c3 A4 c4 hf (n - 1) [] W hb hBW h0 (by simp)
  obtain ⟨⟨p0, p1, p2, p3, p4⟩, _, lp⟩ := five hBn
  refine callsIn_of_wp Try.func115 rfl trivial ?_ rfl
  simp only [Try.ntmps115, List.size_toArray, List.length_cons, List.length_nil, Nat.reduceAdd, Nat.reduceSub, Array.replicate_succ, Array.replicate_zero, List.push_toArray, List.append_toArray, List.nil_append, List.cons_append]
  gi_wp2_with ((first | refine ⟨trivial, fun h => by simp [Fence.wide] at h, ?_⟩ | refine ⟨fun h => by simp [Fence.wide] at h, ?_⟩); gi_at_call 116; refine hp.mono ?_; clear hp; rintro e W1 (⟨rfl, ⟨ys, hy, hJ1⟩, _⟩ | ⟨rfl, q, hq, hx⟩))
  · go_end0
    exact ⟨⟨_, rfl⟩, .inl ⟨ys, hy, by simpa using hJ1⟩⟩
  · go_end0
    exact ⟨⟨_, rfl⟩, .inr ⟨q, hq, by simpa using hx⟩⟩
theorem tynodes_c (t : Ty) (A3 : Option Addr) (c3 : Nat) (A4 : Option Addr) (c4 : Nat) (w : World) : Calls Try.prog 113 #[tv t A3 c3 A4 c4] w fun e w' => e = .returned (.func (.func 115) #[] #[.pointer (some ⟨w.heap.size, 0, none⟩)]) ∧ w' = w.alloc (.cells (tarr t A3 c3 A4 c4) 25) := by
  go_enter Try.func113, Try.ntmps113
  go_wp2
  go_ret
  exact ⟨rfl, rfl⟩
theorem nodes_stops (w0 : World) (B Bn n : Nat) (hB : w0.heap.size ≤ B) (t : Ty) (hsm : Sm t) (A3 : Option Addr) (c3 : Nat) (A4 : Option Addr) (c4 : Nat) (hf : FT w0 (fun i => i < w0.heap.size) t A3 c3 A4 c4) (w : World) (hb : Below w0.heap.size w0 w) (hBW : B < w.heap.size) (hBn : w.heap[Bn]? = some (.cells (tarr t A3 c3 A4 c4) 25 (0, 0))) :
    SeqStopsK Fence.wide n Try.prog 115 #[.pointer (some ⟨Bn, 0, none⟩)] (fun x : Value => #[x]) (KC w0.heap.size B) (fun ys => ys.length = nodes t) (fun q => q.length ≤ nodes t) (nodes t) w := fun l J Jx W hW hJ hJx hY h0 =>
  nodes1_in w0 B l Bn n hB J Jx (fun pre W o h => hJ pre W (W.alloc o) none h (World.grownBy_alloc W o none) (fun r e => by cases e)) t hsm A3 c3 A4 c4 hf hY W (hb.trans (hW.mono hb.size)) (Nat.lt_of_lt_of_le hBW hW.size) ((hW.block Bn (blk_lt hBn)).trans hBn) h0
def NI (w : World) (pre : List Value) (W : World) : Prop := W.heap[w.heap.size + 1]? = some (.cells #[.int .i64 (wrap64 (pre.length : Int))] 3 (0, 0)) ∧ Below w.heap.size w W
theorem NI.own (w : World) (B : Nat) (hB : w.heap.size ≤ B) : OwnFrom B (NI w) := by
  have h : Own (fun (s : List Value) W => W.heap[w.heap.size + 1]? = some (.cells #[.int .i64 (wrap64 (s.length : Int))] 3 (0, 0))) := fun st X Y row hs hg hr => kept_blk hs hg hr
  exact OwnFrom.and (h.from _) (ownFrom_below (Nat.le_refl _) hB)
theorem wrap_next (n : Nat) : wrap64 (wrap64 (n : Int) + 1) = wrap64 ((n + 1 : Nat) : Int) := by unfold wrap64; omega
theorem below_put {w W : World} {D : Nat} {o o' : Obj} (hB : Below w.heap.size w W) (hD : w.heap.size ≤ D) (hK : W.heap[D]? = some o) (ho : o.isCells = false) (hw : o.isWalk = false) : Below w.heap.size w (W.putObj D o') := hB.trans (belowK_b (w := w) (Nat.le_refl _) W D _ _ hD hK ho hw)
set_option maxRecDepth 100000 in
set_option maxHeartbeats 4000000 in
theorem tyNodes_c (t : Ty) (hsm : Sm t) {A3 : Option Addr} {c3 : Nat} {A4 : Option Addr} {c4 : Nat} {w : World} (hf : FT w (fun i => i < w.heap.size) t A3 c3 A4 c4) :
    Calls Try.prog 102 #[tv t A3 c3 A4 c4] w fun e w' => e = .returned (.int .i64 (wrap64 (nodes t : Int))) ∧ Below w.heap.size w w' := by
  refine (callsIn_wide (n := 3)).1 ?_
  refine callsIn_of_wp_marks Try.func102 rfl trivial ?_ rfl
  simp only [Try.ntmps102, List.size_toArray, List.length_cons, List.length_nil, Nat.reduceAdd, Nat.reduceSub, Array.replicate_succ, Array.replicate_zero, List.push_toArray, List.append_toArray, List.nil_append, List.cons_append]
  have k0 := blk_new w (.cells #[.int .i64 t.f0, .int .i64 t.f1, .string t.f2, .slice A3 t.f3.length c3, .slice A4 t.f4.length c4] 25)
  have k1 := blk_new (w.alloc (.cells #[.int .i64 t.f0, .int .i64 t.f1, .string t.f2, .slice A3 t.f3.length c3, .slice A4 t.f4.length c4] 25)) (.cells #[.int .i64 0] 3)
  rw [World.size_alloc] at k1
  replace k0 := blk_alloc k0 (.cells #[.int .i64 0] 3)
  have hB0 := (below_alloc1 w (.cells #[.int .i64 t.f0, .int .i64 t.f1, .string t.f2, .slice A3 t.f3.length c3, .slice A4 t.f4.length c4] 25)).trans ((below_alloc1 (w.alloc (.cells #[.int .i64 t.f0, .int .i64 t.f1, .string t.f2, .slice A3 t.f3.length c3, .slice A4 t.f4.length c4] 25)) (.cells #[.int .i64 0] 3)).mono (below_alloc1 w (.cells #[.int .i64 t.f0, .int .i64 t.f1, .string t.f2, .slice A3 t.f3.length c3, .slice A4 t.f4.length c4] 25)).size)
  obtain ⟨⟨p0, p1, p2, p3, p4⟩, _, lp⟩ := five k0
  gi_wp2_with ((first | refine ⟨trivial, fun h => by simp [Fence.wide] at h, ?_⟩ | refine ⟨trivial, ?_⟩ | refine ⟨fun h => by simp [Fence.wide] at h, ?_⟩); gi_at_call 113; refine (callsIn_wide.2 (tynodes_c t A3 c3 A4 c4 _)).mono ?_; rintro e w' ⟨rfl, rfl⟩)
  clear p0 p1 p2 p3 p4 lp
  have k2 := blk_new ((w.alloc (.cells #[.int .i64 t.f0, .int .i64 t.f1, .string t.f2, .slice A3 t.f3.length c3, .slice A4 t.f4.length c4] 25)).alloc (.cells #[.int .i64 0] 3)) (.cells #[.int .i64 t.f0, .int .i64 t.f1, .string t.f2, .slice A3 t.f3.length c3, .slice A4 t.f4.length c4] 25)
  have hB1 := hB0.trans ((below_alloc1 ((w.alloc (.cells #[.int .i64 t.f0, .int .i64 t.f1, .string t.f2, .slice A3 t.f3.length c3, .slice A4 t.f4.length c4] 25)).alloc (.cells #[.int .i64 0] 3)) (.cells #[.int .i64 t.f0, .int .i64 t.f1, .string t.f2, .slice A3 t.f3.length c3, .slice A4 t.f4.length c4] 25)).mono hB0.size)
  replace k1 := blk_alloc k1 (.cells #[.int .i64 t.f0, .int .i64 t.f1, .string t.f2, .slice A3 t.f3.length c3, .slice A4 t.f4.length c4] 25)
  rw [World.size_alloc, World.size_alloc] at k2
  obtain ⟨W0, hW0⟩ : ∃ W0, (((w.alloc (.cells #[.int .i64 t.f0, .int .i64 t.f1, .string t.f2, .slice A3 t.f3.length c3, .slice A4 t.f4.length c4] 25)).alloc (.cells #[.int .i64 0] 3)).alloc (.cells #[.int .i64 t.f0, .int .i64 t.f1, .string t.f2, .slice A3 t.f3.length c3, .slice A4 t.f4.length c4] 25)) = W0 := ⟨_, rfl⟩
  have hsz : W0.heap.size = w.heap.size + 1 + 1 + 1 := by rw [← hW0]; simp
  rw [hW0] at k1 k2 hB1 ⊢
  clear hW0 k0 hB0
  refine wpIn_rangeFunc_ownF (F := Fence.wide) rfl (by decide) (gf := 115) (lb := #[.pointer (some ⟨w.heap.size + 1 + 1, 0, none⟩)]) rfl trivial (enters_of Try.func115 (by kernel_rfl) rfl)
    (nodes_stops w (w.heap.size + 1) (w.heap.size + 1 + 1) 2 (by omega) t hsm A3 c3 A4 c4 hf W0 hB1 (by omega) k2) KC.trans (KC.put (by omega)) (Below.refl _ _) (fun _ => rfl)
    (NI w) (fun _ _ _ => False) (NI.own w _ (by omega)) (fun _ _ _ _ _ hs _ _ => hs)
    ⟨by rw [show wrap64 (([] : List Value).length : Int) = 0 from by simp [wrap64]]; exact k1, hB1⟩
    (fun x => { tmps := #[tv t A3 c3 A4 c4, .pointer (some ⟨w.heap.size, 0, none⟩), .int .i64 0, .pointer (some ⟨w.heap.size + 1, 0, none⟩), .agg #[.int .i64 t.f0, .int .i64 t.f1, .string t.f2, .slice A3 t.f3.length c3, .slice A4 t.f4.length c4], .func (.func 115) #[] #[.pointer (some ⟨w.heap.size + 1 + 1, 0, none⟩)], x, undef, undef, undef], defers := [] }) ?assign ?body ?done ?stop
  case assign =>
    intro l x W K hK
    gi_wp2
    simpa using hK
  case body =>
    rintro l pre x W ⟨hc, hb⟩ hl
    obtain ⟨c0, f0, lb⟩ := one hc
    gi_wp2
    refine ⟨KeepsOthers.setCell _ _ _, ⟨(Below.refl w.heap.size W).setCell (p := ⟨w.heap.size + 1, 0, none⟩) (by dsimp only; omega) _, by simp [World.setCell], fun i hi c t r h => (Below.heap_setCell W ⟨w.heap.size + 1, 0, none⟩ _ i hi).trans h⟩, ?_, below_set hb (by omega)⟩
    refine (blk_set hc 0 _).trans ?_
    rw [List.length_append, List.length_singleton, ← wrap_next]
    rfl
  case done =>
    rintro D ys W hD hS ⟨hc, hb⟩ hK
    rw [hS] at hc
    obtain ⟨c0, f0, lb⟩ := one hc
    gi_wp2
    refine ⟨by simp, .inl ⟨_, _, rfl, run_takeDeferred hK, ?_⟩⟩
    exact ⟨_, results_tmp rfl _ _ _, rfl, below_put hb (by omega) hK rfl rfl⟩
  case stop =>
    rintro D c pre W _ _ h _
    exact h.elim
end Go.Proofs.Ytnfnhjhnfdkinaa.PSubstPuts
namespace Go.Proofs.Ytnfnhjhnfdkinaa.PSubstPuts
open Go.RowKit Go.Proofs.YtnfnhjhnfdkinaaW.Mine Go.Proofs.YtnfnhjhnfdkinaaW.PrintWords Go.Proofs.YtnfnhjhnfdkinaaW.PrintLast Go.Proofs.YtnfnhjhnfdkinaaW.PrintMore
attribute [local go_sem] max2_int min2_int max_two min_two max_three min_three max_four min_four
set_option linter.unusedVariables false
set_option linter.unusedSimpArgs false
abbrev Bi := S43
abbrev kBi := k43
abbrev barr (b : Bi) (A3 : Option Addr) (c3 : Nat) (A4 : Option Addr) (c4 : Nat) : Array Value := #[.string b.f0, .int .i64 b.f1.f0, .int .i64 b.f1.f1, .string b.f1.f2, .slice A3 b.f1.f3.length c3, .slice A4 b.f1.f4.length c4]
theorem belt {w : World} {A : Option Addr} {l : List Bi} (h : kBi.C w A l.length l) (i : Nat) (hi : i < l.length) : ∃ ad A3 c3 A4 c4, A = some ad ∧ FT w (fun k => k < w.heap.size) l[i].f1 A3 c3 A4 c4
    ∧ w.cell? (ad.add (i * 6)) = some (.string l[i].f0)
    ∧ w.cell? ⟨(ad.add (i * 6)).block, (ad.add (i * 6)).off + 1, none⟩ = some (.int .i64 l[i].f1.f0)
    ∧ w.cell? ⟨(ad.add (i * 6)).block, (ad.add (i * 6)).off + 2, none⟩ = some (.int .i64 l[i].f1.f1)
    ∧ w.cell? ⟨(ad.add (i * 6)).block, (ad.add (i * 6)).off + 3, none⟩ = some (.string l[i].f1.f2)
    ∧ w.cell? ⟨(ad.add (i * 6)).block, (ad.add (i * 6)).off + 4, none⟩ = some (.slice A3 l[i].f1.f3.length c3)
    ∧ w.cell? ⟨(ad.add (i * 6)).block, (ad.add (i * 6)).off + 5, none⟩ = some (.slice A4 l[i].f1.f4.length c4) := by
  obtain ⟨ad, A3, c3, A4, c4, e, h0, h1, h2, h3, h4, h5, g3, r3, g4, r4⟩ := at_T43 h (i : Int) (by omega) (by omega)
  have q : rd_T43 l (i : Int) = l[i] := getD_at _ l i hi
  rw [q] at h0 h1 h2 h3 h4 h5 g3 r3 g4 r4
  rw [Int.toNat_natCast] at h0 h1 h2 h3 h4 h5
  exact ⟨ad, A3, c3, A4, c4, e, FT.start g3 r3 g4 r4, h0, h1, h2, h3, h4, h5⟩
theorem beltF {w : World} {ok : Nat → Prop} {A : Option Addr} {l : List Bi} (h : Kd.F kBi w ok A l.length l) (i : Nat) (hi : i < l.length) : ∃ ad A3 c3 A4 c4, A = some ad ∧ FT w ok l[i].f1 A3 c3 A4 c4
    ∧ w.cell? (ad.add (i * 6)) = some (.string l[i].f0)
    ∧ w.cell? ⟨(ad.add (i * 6)).block, (ad.add (i * 6)).off + 1, none⟩ = some (.int .i64 l[i].f1.f0)
    ∧ w.cell? ⟨(ad.add (i * 6)).block, (ad.add (i * 6)).off + 2, none⟩ = some (.int .i64 l[i].f1.f1)
    ∧ w.cell? ⟨(ad.add (i * 6)).block, (ad.add (i * 6)).off + 3, none⟩ = some (.string l[i].f1.f2)
    ∧ w.cell? ⟨(ad.add (i * 6)).block, (ad.add (i * 6)).off + 4, none⟩ = some (.slice A3 l[i].f1.f3.length c3)
    ∧ w.cell? ⟨(ad.add (i * 6)).block, (ad.add (i * 6)).off + 5, none⟩ = some (.slice A4 l[i].f1.f4.length c4) := by
  obtain ⟨ad, c, e, _, hfk, hc0, _⟩ := Kd.F_get h z43 i (by omega) (by omega)
  rw [getD_at z43 l i hi] at hfk
  obtain ⟨A3, c3, A4, c4, rfl, h3, h3', h4, h4'⟩ := k43_openF hfk
  have hc : ∀ j u, ([.string l[i].f0, .int .i64 l[i].f1.f0, .int .i64 l[i].f1.f1, .string l[i].f1.f2, .slice A3 l[i].f1.f3.length c3, .slice A4 l[i].f1.f4.length c4] : List Value)[j]? = some u → w.cell? (ad.add (i * 6 + j)) = some u := hc0
  exact ⟨ad, A3, c3, A4, c4, e, ⟨h3, h3', h4, h4'⟩, hc 0 _ rfl, by rw [← add_field _ _ 1 (by omega)]; exact hc 1 _ rfl, by rw [← add_field _ _ 2 (by omega)]; exact hc 2 _ rfl, by rw [← add_field _ _ 3 (by omega)]; exact hc 3 _ rfl, by rw [← add_field _ _ 4 (by omega)]; exact hc 4 _ rfl, by rw [← add_field _ _ 5 (by omega)]; exact hc 5 _ rfl⟩
theorem six {w : World} {g : Nat} {v0 v1 v2 v3 v4 v5 : Value} {t : TypeId} (h : w.heap[g]? = some (.cells #[v0, v1, v2, v3, v4, v5] t (0, 0))) :
    (w.cell? ⟨g, 0, none⟩ = some v0 ∧ w.cell? ⟨g, 1, none⟩ = some v1 ∧ w.cell? ⟨g, 2, none⟩ = some v2 ∧ w.cell? ⟨g, 3, none⟩ = some v3 ∧ w.cell? ⟨g, 4, none⟩ = some v4 ∧ w.cell? ⟨g, 5, none⟩ = some v5) ∧ g < w.heap.size :=
  ⟨⟨(blk_cell h 0).trans rfl, (blk_cell h 1).trans rfl, (blk_cell h 2).trans rfl, (blk_cell h 3).trans rfl, (blk_cell h 4).trans rfl, (blk_cell h 5).trans rfl⟩, blk_lt h⟩
theorem blk_up {w w' : World} {g : Nat} {o : Obj} (hb : Below w.heap.size w w') (h : w.heap[g]? = some o) : w'.heap[g]? = some o := (hb.block g (Array.getElem?_eq_some_iff.1 h).1).trans h
theorem eqname_c (b : Bi) (A3 : Option Addr) (c3 : Nat) (A4 : Option Addr) (c4 : Nat) {x : Ty} {B3 B4 : Option Addr} {d3 d4 : Nat} {g : Nat} {w : World} (hx : w.heap[g]? = some (.cells (tarr x B3 d3 B4 d4) 25 (0, 0))) :
    Calls Try.prog 70 #[.agg (barr b A3 c3 A4 c4), .pointer (some ⟨g, 0, none⟩)] w fun e w' => e = .returned (.bool (eqText b.f0 x.f2)) ∧ Below w.heap.size w w' := by
  have kB := blk_new w (.cells (barr b A3 c3 A4 c4) 43)
  obtain ⟨⟨q0, q1, q2, q3, q4, q5⟩, lq⟩ := six kB
  obtain ⟨⟨p0, p1, p2, p3, p4⟩, _, lp⟩ := five (blk_alloc hx (.cells (barr b A3 c3 A4 c4) 43))
  have b0 := below_alloc1 w (.cells (barr b A3 c3 A4 c4) 43)
  clear kB hx
  go_enter Try.func70, Try.ntmps70
  go_wp2
  go_ret
  exact ⟨rfl, b0⟩
def bix (m : List Bi) (s : ByteArray) : Int := if m.findIdx (fun b => eqText b.f0 s) < m.length then ((m.findIdx (fun b => eqText b.f0 s) : Nat) : Int) else -1
theorem bix_at {m : List Bi} {s : ByteArray} {i : Nat} (hi : i < m.length) (h : eqText m[i].f0 s = true) (hj : ∀ j (hj : j < m.length), j < i → eqText m[j].f0 s = false) : bix m s = (i : Int) := by
  have e : m.findIdx (fun b => eqText b.f0 s) = i := (List.findIdx_eq hi).2 ⟨h, fun j hji => hj j (by omega) hji⟩
  unfold bix
  rw [e, if_pos hi]
theorem bix_none {m : List Bi} {s : ByteArray} (h : ∀ j (hj : j < m.length), eqText m[j].f0 s = false) : bix m s = -1 := by
  have e : m.findIdx (fun b => eqText b.f0 s) = m.length := List.findIdx_eq_length.2 (fun x hx => by obtain ⟨j, hj, rfl⟩ := List.mem_iff_getElem.1 hx; exact h j hj)
  unfold bix
  rw [e, if_neg (Nat.lt_irrefl _)]
set_option maxHeartbeats 4000000 in
set_option maxRecDepth 100000 in
theorem ixf_c (m : List Bi) (hm : m.length * 16 ≤ 140737488351232) {A : Option Addr} {c : Nat} {x : Ty} {B3 B4 : Option Addr} {d3 d4 : Nat} {g : Nat} {w : World} (hC : kBi.C w A m.length m) (hx : w.heap[g]? = some (.cells (tarr x B3 d3 B4 d4) 25 (0, 0))) :
    Calls Try.prog 69 #[.slice A m.length c, .func (.func 70) #[] #[.pointer (some ⟨g, 0, none⟩)]] w fun e w' => e = .returned (.int .i64 (bix m x.f2)) ∧ Below w.heap.size w w' := by
  go_enter Try.func69, Try.ntmps69
  go_wp2_with fail
  go_loopg [8] m.length (fun kq v8 w' => ∃ (i : Nat), v8 = .int .i64 i ∧ kq + i = m.length ∧ Aside0 (∀ j (hj : j < m.length), j < i → eqText m[j].f0 x.f2 = false) ∧ Below w.heap.size w w')
  case atStart => exact ⟨0, rfl, rfl, ⟨fun j _ h => absurd h (Nat.not_lt_zero _)⟩, Below.refl _ _⟩
  case round =>
    obtain ⟨i, rfl, hk, HN, br⟩ := hrel
    by_cases hi : i < m.length
    · obtain ⟨k1, rfl⟩ : ∃ k1, gk = k1 + 1 := ⟨gk - 1, by omega⟩
      have ci : decide ((i : Int) < (m.length : Int)) = true := decide_eq_true (by omega)
      have i0 : (0 : Int) ≤ (i : Int) := by omega
      have i1 : (i : Int) < (m.length : Int) := by omega
      obtain ⟨ad, X3, e3, X4, e4, hA, fx, x0, x1, x2, x3, x4, x5⟩ := belt hC i hi
      subst hA
      replace x0 := cell_up br x0
      replace x1 := cell_up br x1
      replace x2 := cell_up br x2
      replace x3 := cell_up br x3
      replace x4 := cell_up br x4
      replace x5 := cell_up br x5
      have HK := Aside0.mk hk
      clear hk
      go_wp2_with fail
      go_call (eqname_c m[i] X3 e3 X4 e4 (blk_up br hx)) as e w5 ⟨he, hb5⟩
      subst he
      have b5 := chain br hb5
      clear x0 x1 x2 x3 x4 x5 hb5 br
      cases hq : eqText m[i].f0 x.f2 with
      | true =>
        have HQ := Aside0.mk (bix_at hi hq HN.out)
        go_wp2
        go_ret
        exact ⟨by rw [HQ.out]; rfl, b5⟩
      | false =>
        have HN' : Aside0 (∀ j (hj : j < m.length), j < i + 1 → eqText m[j].f0 x.f2 = false) := ⟨fun j hj hji => by rcases Nat.lt_succ_iff_lt_or_eq.1 hji with h | rfl; exact HN.out j hj h; exact hq⟩
        clear hq
        go_wp2
        go_roundg k1
        case measure => omega
        case rel => exact ⟨i + 1, (by first | rfl | (simp; done) | (push_cast; rfl)), by have := HK.out; omega, HN', b5⟩
    · have cn : decide ((i : Int) < (m.length : Int)) = false := decide_eq_false (by omega)
      have HQ := Aside0.mk (bix_none (m := m) (s := x.f2) (fun j hj => HN.out j hj (by omega)))
      go_wp2
      go_ret
      exact ⟨by rw [HQ.out]; rfl, br⟩
end Go.Proofs.Ytnfnhjhnfdkinaa.PSubstPuts
namespace Go.Proofs.Ytnfnhjhnfdkinaa.PSubstPuts
open Go.RowKit Go.Proofs.YtnfnhjhnfdkinaaW.Mine Go.Proofs.YtnfnhjhnfdkinaaW.PrintWords Go.Proofs.YtnfnhjhnfdkinaaW.PrintLast Go.Proofs.YtnfnhjhnfdkinaaW.PrintMore
attribute [local go_sem] max2_int min2_int max_two min_two max_three min_three max_four min_four
set_option linter.unusedVariables false
set_option linter.unusedSimpArgs false
/-- What a node is turned into; none: it stays. -/
def TOut (w : World) (ok : Nat → Prop) (o : Option Ty) (e : Ending) (w' : World) : Prop :=
  Below w.heap.size w w' ∧ match o with
  | none => e = .returned (.tuple #[tv z25 none 0 none 0, .bool false])
  | some u => ∃ A3 c3 A4 c4, e = .returned (.tuple #[tv u A3 c3 A4 c4, .bool true]) ∧ FT w' ok u A3 c3 A4 c4
theorem TOut.no {w w' : World} {ok : Nat → Prop} {o : Option Ty} (hb : Below w.heap.size w w') (ho : o = none) : TOut w ok o (.returned (.tuple #[tv z25 none 0 none 0, .bool false])) w' := by
  subst ho; exact ⟨hb, rfl⟩
theorem TOut.yes {w w' : World} {ok : Nat → Prop} {o : Option Ty} {u : Ty} {A3 A4 : Option Addr} {c3 c4 : Nat} (hb : Below w.heap.size w w') (ho : o = some u) (hf : FT w' ok u A3 c3 A4 c4) : TOut w ok o (.returned (.tuple #[tv u A3 c3 A4 c4, .bool true])) w' := by
  subst ho; exact ⟨hb, A3, c3, A4, c4, rfl, hf⟩
def zB : Bi := ⟨⟨#[]⟩, z25⟩
def turnPut (m : List Bi) (x : Ty) : Option Ty := if x.f0 = 6 ∧ 0 ≤ bix m x.f2 then some (m.getD (bix m x.f2).toNat zB).f1 else none
theorem bix_lt (m : List Bi) (s : ByteArray) : bix m s < m.length := by
  unfold bix
  split <;> omega
theorem bix_ge (m : List Bi) (s : ByteArray) : -1 ≤ bix m s := by
  unfold bix
  split <;> omega
set_option maxHeartbeats 4000000 in
set_option maxRecDepth 100000 in
theorem put1_c (m : List Bi) (hm : m.length * 16 ≤ 140737488351232) {M : Option Addr} {cM : Nat} {ok : Nat → Prop} {w0 w : World} (hok : ∀ k, ok k → k < w0.heap.size) (h0 : Below w0.heap.size w0 w) (hC : Kd.F kBi w0 ok M m.length m) (hcM : m.length ≤ cM) {g : Nat} (hg : w.heap[g]? = some (.cells #[.slice M m.length cM] 35 (0, 0))) (x : Ty) (A3 : Option Addr) (c3 : Nat) (A4 : Option Addr) (c4 : Nat) :
    Calls Try.prog 68 #[tv x A3 c3 A4 c4, .pointer (some ⟨g, 0, none⟩)] w (TOut w ok (turnPut m x)) := by
  have k0 := blk_new w (.cells (tarr x A3 c3 A4 c4) 25)
  have k1 := blk_new (w.alloc (.cells (tarr x A3 c3 A4 c4) 25)) (.cells #[.int .i64 0, .int .i64 0, .string ⟨#[]⟩, .slice none 0 0, .slice none 0 0] 25)
  rw [World.size_alloc] at k1
  replace k0 := blk_alloc k0 (.cells #[.int .i64 0, .int .i64 0, .string ⟨#[]⟩, .slice none 0 0, .slice none 0 0] 25)
  have b0 := (below_alloc1 w (.cells (tarr x A3 c3 A4 c4) 25)).trans ((below_alloc1 (w.alloc (.cells (tarr x A3 c3 A4 c4) 25)) (.cells #[.int .i64 0, .int .i64 0, .string ⟨#[]⟩, .slice none 0 0, .slice none 0 0] 25)).mono (below_alloc1 w (.cells (tarr x A3 c3 A4 c4) 25)).size)
  have kG := blk_up b0 hg
  obtain ⟨⟨p0, p1, p2, p3, p4⟩, _, lp⟩ := five k0
  obtain ⟨⟨z0, z1, z2, z3, z4⟩, ⟨s0, s1, s2, s3, s4⟩, lz⟩ := five k1
  obtain ⟨g0, _, lg⟩ := one kG
  have hq : turnPut m x = if x.f0 = 6 ∧ 0 ≤ bix m x.f2 then some (m.getD (bix m x.f2).toNat zB).f1 else none := rfl
  generalize turnPut m x = o at hq ⊢
  have hlt := bix_lt m x.f2
  have hge := bix_ge m x.f2
  have HQ := Aside0.mk hq
  clear hq
  go_enter Try.func68, Try.ntmps68
  go_wp2_with fail
  go_call (ixf_c m hm (Kd.C_below (Kd.C_below (Kd.F_now hC) h0) b0) k0) as e w1 ⟨he, hb1⟩
  subst he
  have b1 := chain b0 hb1
  replace k0 := blk_up hb1 k0
  replace k1 := blk_up hb1 k1
  replace kG := blk_up hb1 kG
  clear p0 p1 p2 p3 p4 lp z0 z1 z2 z3 z4 s0 s1 s2 s3 s4 g0 lg b0 hg
  obtain ⟨⟨p0, p1, p2, p3, p4⟩, _, lp⟩ := five k0
  obtain ⟨⟨z0, z1, z2, z3, z4⟩, ⟨s0, s1, s2, s3, s4⟩, lz1⟩ := five k1
  obtain ⟨g0, _, lg⟩ := one kG
  generalize bix m x.f2 = ib at HQ hlt hge ⊢
  by_cases h6 : x.f0 = 6
  · by_cases hi : ib < 0
    · have ci : decide (ib < 0) = true := decide_eq_true hi
      have HN : Aside0 (o = none) := ⟨by rw [HQ.out, if_neg (by omega)]⟩
      go_wp2
      refine bodyPost_ret (results_ct rfl _ _ _ 25 _ (0, 0) _ rfl (stored k1 _ _ _ _ _) Try.underlying25 rfl (by kernel_rfl)) rfl ?_
      exact TOut.no (below_stored b1 (by omega) _ _ _ _ _) HN.out
    · have ci : decide (ib < 0) = false := decide_eq_false hi
      obtain ⟨i, rfl⟩ : ∃ i : Nat, ib = (i : Int) := ⟨ib.toNat, by omega⟩
      have hil : i < m.length := by omega
      have HN : Aside0 (o = some m[i].f1) := ⟨by rw [HQ.out, if_pos ⟨h6, by omega⟩, Int.toNat_natCast, List.getD_eq_getElem?_getD, List.getElem?_eq_getElem hil]; rfl⟩
      obtain ⟨ad, X3, e3, X4, e4, hA, fx, x0, x1, x2, x3, x4, x5⟩ := beltF hC i hil
      subst hA
      have bb := h0.trans (b1.mono h0.size)
      replace x1 := cell_up bb x1
      replace x2 := cell_up bb x2
      replace x3 := cell_up bb x3
      replace x4 := cell_up bb x4
      replace x5 := cell_up bb x5
      have i0 : (0 : Int) ≤ (i : Int) := by omega
      have i1 : (i : Int) < (m.length : Int) := by omega
      have sz0 := h0.size
      clear x0 HQ
      go_wp2
      refine bodyPost_ret (results_ct rfl _ _ _ 25 _ (0, 0) _ rfl (stored k1 _ _ _ _ _) Try.underlying25 rfl (by kernel_rfl)) rfl ?_
      exact TOut.yes (below_stored b1 (by omega) _ _ _ _ _) HN.out ((fx.below bb).stored (fun k hk => by have := hok k hk; omega) _ _ _ _ _)
  · have HN : Aside0 (o = none) := ⟨by rw [HQ.out, if_neg (fun h => h6 h.1)]⟩
    have c6 : decide (x.f0 = 6) = false := decide_eq_false h6
    have c6' : (x.f0 == 6) = false := by simpa using h6
    have c6'' : (x.f0 != 6) = true := by simpa using h6
    go_wp2
    refine bodyPost_ret (results_ct rfl _ _ _ 25 _ (0, 0) _ rfl (stored k1 _ _ _ _ _) Try.underlying25 rfl (by kernel_rfl)) rfl ?_
    exact TOut.no (below_stored b1 (by omega) _ _ _ _ _) HN.out
end Go.Proofs.Ytnfnhjhnfdkinaa.PSubstPuts
namespace Go.Proofs.Ytnfnhjhnfdkinaa.PSubstPuts
open Go.RowKit Go.Proofs.YtnfnhjhnfdkinaaW.Mine Go.Proofs.YtnfnhjhnfdkinaaW.PrintWords Go.Proofs.YtnfnhjhnfdkinaaW.PrintLast Go.Proofs.YtnfnhjhnfdkinaaW.PrintMore
attribute [local go_sem] max2_int min2_int max_two min_two max_three min_three max_four min_four
set_option linter.unusedVariables false
set_option linter.unusedSimpArgs false
theorem take_held {P : Program} {ops : Array Oper} {Q : Exit → Act → World → Prop} {md : Region.Mode} {S : World → Prop} {i : Nat} {oi : Oper} {d : Option Tmp} {v : Value} {fuel : Nat} {listed : Array Bool} {a : Act} {w : World} (hi : ops[i]? = some oi) (hd : oi.dst = d)
    (hs : Region.noSelect ops = true) (hf : Region.free md ops listed i = true) (hr : (Region.ready md ops listed).contains i = true)
    (hQ : ∀ c a w, Q (.panic c) (a.put oi.dst v) w → Q (.panic c) a w) (hy : YieldsIf P ops S oi v a) (hS : S w)
    (h : wpAnyH P md ops Q S fuel (listed.setIfInBounds i true) (a.put d v) w) : wpAnyH P md ops Q S (fuel + 1) listed a w := by
  subst hd; exact wpAnyH_take hi hs hf hr hQ hy hS h
mutual
def over (f : Ty → Option Ty) : Ty → Int → Ty × Int
  | ⟨a0, a1, a2, a3, a4⟩, k => if k < 0 then (z25, k) else match f ⟨a0, a1, a2, a3, a4⟩ with
    | some u => (u, wrap64 (k - wrap64 (nodes u : Int)))
    | none => (⟨a0, a1, a2, a3, (overAll f a4 (k - 1)).1⟩, (overAll f a4 (k - 1)).2)
def overAll (f : Ty → Option Ty) : List Ty → Int → List Ty × Int
  | [], k => ([], k)
  | a :: l, k => ((over f a k).1 :: (overAll f l (over f a k).2).1, (overAll f l (over f a k).2).2)
end
theorem over_eq (f : Ty → Option Ty) (x : Ty) (k : Int) : over f x k = if k < 0 then (z25, k) else match f x with
    | some u => (u, wrap64 (k - wrap64 (nodes u : Int)))
    | none => (⟨x.f0, x.f1, x.f2, x.f3, (overAll f x.f4 (k - 1)).1⟩, (overAll f x.f4 (k - 1)).2) := by
  cases x; simp only [over]
theorem overAll_cons (f : Ty → Option Ty) (a : Ty) (l : List Ty) (k : Int) : overAll f (a :: l) k = ((over f a k).1 :: (overAll f l (over f a k).2).1, (overAll f l (over f a k).2).2) := by simp only [overAll]
theorem overAll_nil (f : Ty → Option Ty) (k : Int) : overAll f [] k = ([], k) := by simp only [overAll]
theorem elt_blk {w : World} {ok : Nat → Prop} {ad : Addr} {l : List Ty} (h : Kd.F kTy w ok (some ad) l.length l) (i : Nat) (hi : i < l.length) : ok ad.block := by
  obtain ⟨ad', c, e, _, _, _, hk⟩ := Kd.F_get h z25 i (by omega) (by omega)
  obtain rfl := Option.some.inj e
  exact hk (by decide)
theorem Kq.of_grown {n : Nat} {W V : World} {row : Option Nat} (hB : Below n W V) (hg : W.grownBy V row) : Kq (fun k => some k = row) W V := ⟨hB.os, hB.tape, hB.output, hg.size, fun i hi hn => hg.block i hi (fun e => hn e)⟩
theorem wrap_max (x : Int) : wrap64 x ≤ 9223372036854775807 := by unfold wrap64; omega
mutual
theorem over_max (f : Ty → Option Ty) : ∀ (x : Ty) (k : Int), k ≤ 9223372036854775807 → (over f x k).2 ≤ 9223372036854775807
  | ⟨a0, a1, a2, a3, a4⟩, k, h => by
    rw [over_eq]
    split
    · exact h
    · split
      · exact wrap_max _
      · exact overAll_max f a4 (k - 1) (by omega)
theorem overAll_max (f : Ty → Option Ty) : ∀ (l : List Ty) (k : Int), k ≤ 9223372036854775807 → (overAll f l k).2 ≤ 9223372036854775807
  | [], k, h => by rw [overAll_nil]; exact h
  | a :: l, k, h => by
    rw [overAll_cons]
    exact overAll_max f l _ (over_max f a k h)
end
/-- What over answers: the type, and the count in block g. -/
def OvOut (B : Nat → Prop) (tvl : Value) (w : World) (g : Nat) (o : Ty × Int) (e : Ending) (w' : World) : Prop :=
  Kq (fun k => k = g) w w' ∧ w'.heap[g]? = some (.cells #[tvl, .int .i64 o.2] 99 (0, 0)) ∧ ∃ A3 c3 A4 c4, e = .returned (tv o.1 A3 c3 A4 c4) ∧ FT w' (fun k => B k ∨ w.heap.size ≤ k) o.1 A3 c3 A4 c4
theorem OvOut.mk {B : Nat → Prop} {tvl : Value} {w w' : World} {g : Nat} {o : Ty × Int} {u : Ty} {k : Int} {A3 A4 : Option Addr} {c3 c4 : Nat} (hq : Kq (fun k => k = g) w w') (ho : o = (u, k)) (hg : w'.heap[g]? = some (.cells #[tvl, .int .i64 k] 99 (0, 0))) (hf : FT w' (fun k => B k ∨ w.heap.size ≤ k) u A3 c3 A4 c4) : OvOut B tvl w g o (.returned (tv u A3 c3 A4 c4)) w' := by
  subst ho; exact ⟨hq, hg, A3, c3, A4, c4, rfl, hf⟩
theorem two {w : World} {g : Nat} {v0 v1 : Value} {t : TypeId} (h : w.heap[g]? = some (.cells #[v0, v1] t (0, 0))) : (w.cell? ⟨g, 0, none⟩ = some v0 ∧ w.cell? ⟨g, 1, none⟩ = some v1) ∧ (w.frozen? ⟨g, 0, none⟩ = false ∧ w.frozen? ⟨g, 1, none⟩ = false) ∧ g < w.heap.size :=
  ⟨⟨(blk_cell h 0).trans rfl, (blk_cell h 1).trans rfl⟩, ⟨blk_frozen h 0, blk_frozen h 1⟩, blk_lt h⟩
theorem twob (w : World) (t : Ty) (A3 : Option Addr) (c3 : Nat) (A4 : Option Addr) (c4 : Nat) (zs : Array Value) : let W := ((w.alloc (.cells #[.int .i64 t.f0, .int .i64 t.f1, .string t.f2, .slice A3 t.f3.length c3, .slice A4 t.f4.length c4] 25)).alloc (.cells zs 25))
    (W.heap[w.heap.size]? = some (.cells #[.int .i64 t.f0, .int .i64 t.f1, .string t.f2, .slice A3 t.f3.length c3, .slice A4 t.f4.length c4] 25 (0, 0)) ∧ W.heap[w.heap.size + 1]? = some (.cells zs 25 (0, 0))) ∧ Below w.heap.size w W := by
  have kR := blk_new (w.alloc (.cells #[.int .i64 t.f0, .int .i64 t.f1, .string t.f2, .slice A3 t.f3.length c3, .slice A4 t.f4.length c4] 25)) (.cells zs 25)
  simp only [World.size_alloc] at kR
  exact ⟨⟨blk_alloc (blk_new w _) _, kR⟩, chain (below_alloc1 _ _) (below_alloc1 _ _)⟩
set_option maxHeartbeats 20000000 in
set_option maxRecDepth 100000 in
theorem over_c (f : Ty → Option Ty) (wb : World) (B : Nat → Prop) (hB : ∀ k, B k → k < wb.heap.size) (gm : Nat) (hgm : gm < wb.heap.size) (hsu : ∀ x u, f x = some u → Sm u)
    (hf : ∀ w', Below wb.heap.size wb w' → ∀ (x : Ty) (A3 : Option Addr) (c3 : Nat) (A4 : Option Addr) (c4 : Nat), Calls Try.prog 68 #[tv x A3 c3 A4 c4, .pointer (some ⟨gm, 0, none⟩)] w' (TOut w' (fun k => B k) (f x))) :
    ∀ (n : Nat) (t : Ty), SizeOf.sizeOf t < n → Sm t → ∀ (A3 : Option Addr) (c3 : Nat) (A4 : Option Addr) (c4 : Nat) (g : Nat) (kv : Int) (w : World), Below wb.heap.size wb w → FT w (fun k => B k) t A3 c3 A4 c4 → wb.heap.size ≤ g → w.heap[g]? = some (.cells #[(.func (.func 68) #[] #[.pointer (some ⟨gm, 0, none⟩)]), .int .i64 kv] 99 (0, 0)) → kv ≤ 9223372036854775807 →
    Calls Try.prog 90 #[.pointer (some ⟨g, 0, none⟩), tv t A3 c3 A4 c4] w (OvOut B (.func (.func 68) #[] #[.pointer (some ⟨gm, 0, none⟩)]) w g (over f t kv))
  | 0, _, h, _ => absurd h (Nat.not_lt_zero _)
  | n + 1, t, hn, hsm => by
    intro A3 c3 A4 c4 g kv w hwb ht hgb hg0 hkv
    obtain ⟨⟨kA, kR⟩, b0⟩ := twob w t A3 c3 A4 c4 #[.int .i64 0, .int .i64 0, .string ⟨#[]⟩, .slice none 0 0, .slice none 0 0]
    have kG := blk_below hg0 b0
    have lg0 := blk_lt hg0
    have hq := over_eq f t kv
    generalize over f t kv = o at hq ⊢
    obtain ⟨⟨p0, p1, p2, p3, p4⟩, _, la⟩ := five kA
    obtain ⟨⟨r0, r1, r2, r3, r4⟩, ⟨s0, s1, s2, s3, s4⟩, lr⟩ := five kR
    obtain ⟨⟨g0, g1⟩, ⟨g2, g3⟩, lg⟩ := two kG
    by_cases h1 : kv < 0
    · rw [if_pos h1] at hq
      have e1 : decide (kv < 0) = true := decide_eq_true h1
      have HQ := Aside0.mk hq
      clear hq h1
      go_enter Try.func90, Try.ntmps90
      go_wp2
      refine bodyPost_ret (results_cell_row rfl _ _ _ 25 _ (0, 0) _ rfl kR Try.underlying25 rfl (by kernel_rfl)) rfl ?_
      exact OvOut.mk (Kq.of_below b0) HQ.out kG ⟨Nat.le_refl _, Kd.F_nil _ _ _, Nat.le_refl _, Kd.F_nil _ _ _⟩
    rw [if_neg h1] at hq
    have e1 : decide (kv < 0) = false := decide_eq_false h1
    have hwB := hwb.trans (b0.mono hwb.size)
    have HQ := Aside0.mk hq
    clear hq
    go_enter Try.func90, Try.ntmps90
    go_wp2_with fail
    have ht1 := ht.below b0
    have szb := hwb.size
    have lz := lr
    have hk0 : 0 ≤ kv := by omega
    have HT0 := Aside0.mk ht
    clear e1 h1 p0 p1 p2 p3 p4 la r0 r1 r2 r3 r4 s0 s1 s2 s3 s4 lr g0 g1 g2 g3 lg hg0 ht
    generalize hWX : (w.alloc (.cells #[.int .i64 t.f0, .int .i64 t.f1, .string t.f2, .slice A3 t.f3.length c3, .slice A4 t.f4.length c4] 25)).alloc (.cells #[.int .i64 0, .int .i64 0, .string ⟨#[]⟩, .slice none 0 0, .slice none 0 0] 25) = WX at kA kR kG b0 hwB ht1 lz ⊢
    clear hWX
    obtain ⟨⟨p0, p1, p2, p3, p4⟩, _, la⟩ := five kA
    obtain ⟨⟨g0, g1⟩, ⟨g2, g3⟩, lg⟩ := two kG
    cases hft : f t with
    | none =>
      refine with_cont (G := ?Gnone) ?cont fun hmain => ?reg
      case reg =>
        go_region_held3 (fun w' => Below WX.heap.size WX w' ∧ w'.cell? ⟨w.heap.size, 0, none⟩ = some (.int .i64 t.f0) ∧ w'.cell? ⟨w.heap.size, 1, none⟩ = some (.int .i64 t.f1) ∧ w'.cell? ⟨w.heap.size, 2, none⟩ = some (.string t.f2) ∧ w'.cell? ⟨w.heap.size, 3, none⟩ = some (.slice A3 t.f3.length c3) ∧ w'.cell? ⟨w.heap.size, 4, none⟩ = some (.slice A4 t.f4.length c4) ∧ w'.cell? ⟨g, 0, none⟩ = some ((.func (.func 68) #[] #[.pointer (some ⟨gm, 0, none⟩)])))
          ((refine and_of (fun hB_ => ⟨cell_up hB_ p0, cell_up hB_ p1, cell_up hB_ p2, cell_up hB_ p3, cell_up hB_ p4, cell_up hB_ g0⟩) ?_; first | (with_reducible exact (Below.refl _ _).drew) | (with_reducible exact ((Below.refl _ _).alloc (Nat.le_refl _) _).drew) | (with_reducible exact below_call' (And.left (by assumption)) (by assumption)) | (with_reducible exact below_realloc' (And.left (by assumption)) (by omega) _) | (with_reducible exact Below.alloc (And.left (by assumption)) (by first | omega | exact (And.left (by assumption)).size) _) | ((repeat' (with_reducible refine Below.setCell ?_ ?_ _)) <;> first | (exact Nat.le_refl WX.heap.size) | omega | (with_reducible exact And.left (by assumption)))))
          (first
            | (go_at_call 68; refine (hf _ (hwB.trans (Below.mono (And.left (by assumption)) hwB.size)) t A3 c3 A4 c4).mono ?_; rw [hft]; rintro e w5 ⟨hb5, rfl⟩; have sz := hb5.size; (try simp only [World.size_alloc, World.size_drew] at sz); first | (with_reducible have kT := blk_below (blk_new WX _) hb5; have zb := five kT) | (with_reducible have kT := blk_below (blk_drew (blk_new WX _)) hb5; have zb := five kT) | skip))
        · rename_i hH
          have kT1 := blk_new w5 (.cells #[.int .i64 z25.f0, .int .i64 z25.f1, .string z25.f2, .slice none z25.f3.length 0, .slice none z25.f4.length 0] 25)
          have lT : WX.heap.size ≤ w5.heap.size := by omega
          have bX1 : Below WX.heap.size WX _ := hH.1
          clear hH
          generalize hX1 : World.alloc w5 _ = X1 at kT1 bX1 ⊢
          generalize hgT : w5.heap.size = gT at kT1 lT ⊢
          have lT2 := lT
          clear hb5 sz lT hX1 hgT
          revert X1 gT
          exact hmain.out
        · rename_i hH
          have kT1 := stored kT (.int .i64 z25.f0) (.int .i64 z25.f1) (.string z25.f2) (.slice none z25.f3.length 0) (.slice none z25.f4.length 0)
          have lT : WX.heap.size ≤ WX.heap.size := Nat.le_refl _
          have bX1 : Below WX.heap.size WX _ := hH.1
          clear hH
          generalize hX1 : World.setCell (World.setCell _ _ _) ⟨_, 4, none⟩ _ = X1 at kT1 bX1 ⊢
          obtain ⟨gT, hgT⟩ : ∃ gT, gT = WX.heap.size := ⟨_, rfl⟩
          rw [← hgT] at kT1 ⊢
          have lT2 : WX.heap.size ≤ gT := by omega
          clear hb5 sz lT hX1 hgT kT zb
          revert X1 gT
          exact hmain.out
      case cont =>
        intro X1 bX1 gT kT1 lT2
        clear p0 p1 p2 p3 p4 la g0 g1 g2 g3 lg kT1
        have br1 := chain b0 bX1
        have hwX := hwB.trans (bX1.mono hwB.size)
        replace kA := blk_below kA bX1
        replace kR := blk_below kR bX1
        replace kG := blk_below kG bX1
        have HQ2 : Aside0 (o = (⟨t.f0, t.f1, t.f2, t.f3, (overAll f t.f4 (kv - 1)).1⟩, (overAll f t.f4 (kv - 1)).2)) := ⟨by rw [HQ.out, hft]⟩
        have szW := b0.size
        have lzX : w.heap.size + 1 < X1.heap.size := Nat.lt_of_lt_of_le lz bX1.size
        clear HQ hft lT2
        have kG1 := blk_set kG 1 (.int .i64 (kv - 1))
        have kA1 := blk_far kA (p := ⟨g, 1, none⟩) (by dsimp only; omega) (.int .i64 (kv - 1))
        have kR1 := blk_far kR (p := ⟨g, 1, none⟩) (by dsimp only; omega) (.int .i64 (kv - 1))
        have q1 := (Kq.of_below (S := fun k => k = g) br1).set (p := ⟨g, 1, none⟩) (.inl rfl) (.int .i64 (kv - 1))
        have sz1 : (X1.setCell ⟨g, 1, none⟩ (.int .i64 (kv - 1))).heap.size = X1.heap.size := by simp [World.setCell]
        have kU := blk_new (X1.setCell ⟨g, 1, none⟩ (.int .i64 (kv - 1))) (.cells #[.int .i64 t.f0, .int .i64 t.f1, .string t.f2, .slice A3 t.f3.length c3, .slice none 0 0] 25)
        have bU := below_alloc1 (X1.setCell ⟨g, 1, none⟩ (.int .i64 (kv - 1))) (.cells #[.int .i64 t.f0, .int .i64 t.f1, .string t.f2, .slice A3 t.f3.length c3, .slice none 0 0] 25)
        replace kG1 := blk_below kG1 bU
        replace kA1 := blk_below kA1 bU
        replace kR1 := blk_below kR1 bU
        replace q1 := q1.trans (Kq.of_below bU)
        rw [sz1] at kU
        obtain ⟨⟨p0, p1, p2, p3, p4⟩, _, la⟩ := five kA
        obtain ⟨⟨g0, g1⟩, ⟨g2, g3⟩, lg⟩ := two kG
        have Q1 := Aside0.mk q1
        have KU := Aside0.mk kU
        have KG1 := Aside0.mk kG1
        have KA1 := Aside0.mk kA1
        have KR1 := Aside0.mk kR1
        have HWX := Aside0.mk hwX
        have HT1 := Aside0.mk ht1
        have SZ1 := Aside0.mk sz1
        have hsl := hsm.len
        clear q1 kU kG1 kA1 kR1 bU kA kR kG bX1 br1 hwB hwX b0 sz1 lz
        go_wp2_with fail
        clear p0 p1 p2 p3 p4 la g0 g1 g2 g3 lg
        have q1 := Q1.out
        have kU := KU.out
        have kG := KG1.out
        have kA := KA1.out
        have kR := KR1.out
        generalize hX2 : World.alloc (X1.setCell _ _) _ = X2 at q1 kU kG kA kR ⊢
        generalize hgU : X1.heap.size = gU at kU lzX ⊢
        clear hX2 hgU Q1 KU KG1 KA1 KR1 SZ1
        have hk1 : kv - 1 ≤ 9223372036854775807 := by omega
        go_loopg [48] t.f4.length (fun kq v48 w' => ∃ (i : Nat) (xs : List Ty) (kc : Int) (v : Value), v48 = .int .i64 i ∧ kq + i = t.f4.length ∧ Aside0 (xs.length = i) ∧ Aside0 (overAll f t.f4 (kv - 1) = (xs ++ (overAll f (t.f4.drop i) kc).1, (overAll f (t.f4.drop i) kc).2)) ∧ kc ≤ 9223372036854775807 ∧ Kd.N kTy 25 w' w.heap.size (fun k => B k ∨ gU < k) v xs ∧ w'.heap[gU]? = some (.cells #[.int .i64 t.f0, .int .i64 t.f1, .string t.f2, .slice A3 t.f3.length c3, v] 25 (0, 0)) ∧ w'.heap[w.heap.size]? = some (.cells #[.int .i64 t.f0, .int .i64 t.f1, .string t.f2, .slice A3 t.f3.length c3, .slice A4 t.f4.length c4] 25 (0, 0)) ∧ w'.heap[w.heap.size + 1]? = some (.cells #[.int .i64 0, .int .i64 0, .string ⟨#[]⟩, .slice none 0 0, .slice none 0 0] 25 (0, 0)) ∧ w'.heap[g]? = some (.cells #[(.func (.func 68) #[] #[.pointer (some ⟨gm, 0, none⟩)]), .int .i64 kc] 99 (0, 0)) ∧ Kq (fun k => k = g) w w')
        case atStart => exact ⟨0, [], kv - 1, .slice none 0 0, rfl, rfl, ⟨rfl⟩, ⟨by simp⟩, hk1, Kd.N_nil _ _ _ _ _, kU, kA, kR, kG, q1⟩
        case round =>
          clear kU kA kR kG q1
          obtain ⟨i, xs, kc, v, rfl, hk, HXL, HC, hkc, HO, kU, kA, kR, kG, qr⟩ := hrel
          obtain ⟨Av, cv, rfl⟩ := Kd.N_slice HO
          obtain ⟨⟨p0, p1, p2, p3, p4⟩, _, la⟩ := five kA
          obtain ⟨⟨u0, u1, u2, u3, u4⟩, ⟨t0, t1, t2, t3, t4⟩, lu⟩ := five kU
          obtain ⟨⟨r0, r1, r2, r3, r4⟩, ⟨s0, s1, s2, s3, s4⟩, lr⟩ := five kR
          by_cases hi : i < t.f4.length
          · obtain ⟨k1, rfl⟩ : ∃ k1, gk = k1 + 1 := ⟨gk - 1, by omega⟩
            have ci : decide ((i : Int) < (t.f4.length : Int)) = true := decide_eq_true (by omega)
            have i0 : (0 : Int) ≤ (i : Int) := by omega
            have i1 : (i : Int) < (t.f4.length : Int) := by omega
            have htf := HT0.out
            obtain ⟨ad, X3, e3, X4, e4, hA, fx, x0, x1, x2, x3, x4⟩ := elt htf.2.2.2 i hi
            subst hA
            have hab : ad.block < wb.heap.size := hB _ (elt_blk htf.2.2.2 i hi)
            have nxa : ∀ k, (ad.add k).block = ad.block := fun k => by unfold Addr.add; split <;> rfl
            have nxb : ¬ ((ad.add (i * 5)).block = g) := by rw [nxa]; omega
            replace x0 := qr.cell x0 nxb
            replace x1 := qr.cell x1 nxb
            replace x2 := qr.cell x2 nxb
            replace x3 := qr.cell x3 nxb
            replace x4 := qr.cell x4 nxb
            have HK := Aside0.mk hk
            clear nxa nxb hab hk htf hk1
            go_wp2_with fail
            have kX := blk_new wr (.cells #[.int .i64 t.f4[i].f0, .int .i64 t.f4[i].f1, .string t.f4[i].f2, .slice X3 t.f4[i].f3.length e3, .slice X4 t.f4[i].f4.length e4] 25)
            have bX := below_alloc1 wr (.cells #[.int .i64 t.f4[i].f0, .int .i64 t.f4[i].f1, .string t.f4[i].f2, .slice X3 t.f4[i].f3.length e3, .slice X4 t.f4[i].f4.length e4] 25)
            have qX := qr.trans (Kq.of_below (S := fun k => k = g) bX)
            have szX : wr.heap.size < (wr.alloc (.cells #[.int .i64 t.f4[i].f0, .int .i64 t.f4[i].f1, .string t.f4[i].f2, .slice X3 t.f4[i].f3.length e3, .slice X4 t.f4[i].f4.length e4] 25)).heap.size := by rw [World.size_alloc]; exact Nat.lt_succ_self _
            have hlt0 := Kd.N_lt HO
            have hbs := Kd.N_base HO
            have hown := HO.1
            replace kA := blk_below kA bX
            replace kR := blk_below kR bX
            replace kU := blk_below kU bX
            replace kG := blk_below kG bX
            replace HO := Kd.N_below HO bX
            have szr := qr.size
            clear p0 p1 p2 p3 p4 la r0 r1 r2 r3 r4 s0 s1 s2 s3 s4 lr u0 u1 u2 u3 u4 t0 t1 t2 t3 t4 x0 x1 x2 x3 x4 ci qr
            generalize hWX2 : wr.alloc _ = W2 at kX kA kR kU kG HO qX bX szX ⊢
            generalize hgX : wr.heap.size = gX at kX lu hlt0 szX szr ⊢
            clear hWX2 bX hgX
            have HGS := Aside0.mk (⟨fun h => by rcases h with h | h; omega; (have := hlt0 gX h.symm; omega), fun h => by rcases h with h | h; omega; (have h1_ := hbs gU h.symm; rcases hown gU h.symm with hb_ | hb_; (have := hB _ hb_; omega); omega)⟩ : (¬ (gX = g ∨ some gX = (Value.slice Av xs.length cv).ownBlock)) ∧ ¬ (gU = g ∨ some gU = (Value.slice Av xs.length cv).ownBlock))
            have nX : ¬ ((fun k => k = g ∨ some k = (Value.slice Av xs.length cv).ownBlock) gX) := HGS.out.1
            have nU : ¬ ((fun k => k = g ∨ some k = (Value.slice Av xs.length cv).ownBlock) gU) := HGS.out.2
            have hb2 : Below wb.heap.size wb W2 := hwb.trans (qX.below (B := wb.heap.size) szb (fun k hk he => by omega))
            have fx2 := fx.kq qX (fun k hk he => by have hB_ := hB k hk; omega)
            have hsz : SizeOf.sizeOf t.f4[i] < n := by have := size_args t t.f4[i] (List.getElem_mem hi); omega
            have hsmi := hsm.all _ (List.getElem_mem hi)
            obtain ⟨⟨p0, p1, p2, p3, p4⟩, _, lx⟩ := five kX
            obtain ⟨⟨u0, u1, u2, u3, u4⟩, _, lu'⟩ := five kU
            generalize hOV : over f t.f4[i] kc = ov
            have HOV := Aside0.mk hOV
            clear hOV
            refine start_ (ds := [8]) (S := (fun w' => Kq (fun k => k = g ∨ some k = (Value.slice Av xs.length cv).ownBlock) W2 w' ∧ w'.cell? ⟨gX, 0, none⟩ = some (.int .i64 t.f4[i].f0) ∧ w'.cell? ⟨gX, 1, none⟩ = some (.int .i64 t.f4[i].f1) ∧ w'.cell? ⟨gX, 2, none⟩ = some (.string t.f4[i].f2) ∧ w'.cell? ⟨gX, 3, none⟩ = some (.slice X3 t.f4[i].f3.length e3) ∧ w'.cell? ⟨gX, 4, none⟩ = some (.slice X4 t.f4[i].f4.length e4) ∧ w'.cell? ⟨gU, 4, none⟩ = some (.slice Av xs.length cv))) #[false, false, false, false, false, false, false, false, false] (by kernel_rfl) rfl rfl ?_ (fun hHeld => ?_)
            · (try dsimp only)
              (refine and_of' (fun hK_ => ⟨hK_.cell p0 nX, hK_.cell p1 nX, hK_.cell p2 nX, hK_.cell p3 nX, hK_.cell p4 nX, hK_.cell u4 nU⟩) ?_; exact Kq.of_below (Below.refl _ _).drew)
            (refine take_ (i := 0) (N := (some 52)) (v := ?_) #[true, false, false, false, false, false, false, false, false] rfl rfl (by kernel_rfl) (fun _ _ _ h => h) (Or.inl ⟨by rfl, ?_⟩) hHeld rfl ?_; rotate_left 1; focus ((intro w hSw; (try dsimp only at hSw); first | (go_simp; done) | (go_simp; with_reducible rfl)); done); (try simp only [Act.put, List.setIfInBounds_toArray, List.set_cons_zero, List.set_cons_succ]))
            (refine take_ (i := 1) (N := (some 53)) (v := ?_) #[true, true, false, false, false, false, false, false, false] rfl rfl (by kernel_rfl) (fun _ _ _ h => h) (Or.inl ⟨by rfl, ?_⟩) hHeld rfl ?_; rotate_left 1; focus ((intro w hSw; (try dsimp only at hSw); first | (go_simp; done) | (go_simp; with_reducible rfl)); done); (try simp only [Act.put, List.setIfInBounds_toArray, List.set_cons_zero, List.set_cons_succ]))
            (refine take_ (i := 2) (N := (some 54)) (v := ?_) #[true, true, true, false, false, false, false, false, false] rfl rfl (by kernel_rfl) (fun _ _ _ h => h) (Or.inl ⟨by rfl, ?_⟩) hHeld rfl ?_; rotate_left 1; focus ((intro w hSw; (try dsimp only at hSw); first | (go_simp; done) | (go_simp; with_reducible rfl)); done); (try simp only [Act.put, List.setIfInBounds_toArray, List.set_cons_zero, List.set_cons_succ]))
            (refine take_ (i := 3) (N := (some 55)) (v := ?_) #[true, true, true, true, false, false, false, false, false] rfl rfl (by kernel_rfl) (fun _ _ _ h => h) (Or.inl ⟨by rfl, ?_⟩) hHeld rfl ?_; rotate_left 1; focus ((intro w hSw; (try dsimp only at hSw); first | (go_simp; done) | (go_simp; with_reducible rfl)); done); (try simp only [Act.put, List.setIfInBounds_toArray, List.set_cons_zero, List.set_cons_succ]))
            (refine one_ (i := 4) (N := (some 56)) #[true, true, true, true, true, false, false, false, false] rfl rfl (by kernel_rfl) (by decide) (fun K hK => ?_); go_simp; (go_at_call 90; refine (over_c f wb B hB gm hgm hsu hf n t.f4[i] hsz hsmi X3 e3 X4 e4 g kc _ (by first | exact hb2 | exact hb2.drew) (by first | exact fx2 | exact fx2.below (Below.refl _ _).drew) hgb (by first | exact kG | exact blk_drew kG) hkc).mono ?_; rw [HOV.out]; rintro e w5 ⟨hq5, hg5, C3, q3, C4, q4, rfl, hft5⟩; have HO5 := Kd.N_step (by first | exact HO | exact Kd.N_drew HO) (fun k hk hl => hq5.block k hl (by rcases hk with hk | hk; (have hB_ := hB k hk; omega); omega)); have q5 : Kq (fun k => k = g ∨ some k = (Value.slice Av xs.length cv).ownBlock) W2 w5 := (And.left hHeld).trans (hq5.mono (fun k hk => .inl hk))); (try go_wp2_with fail); refine hK.out _ _ (by (try dsimp only); (refine and_of' (fun hK_ => ⟨hK_.cell p0 nX, hK_.cell p1 nX, hK_.cell p2 nX, hK_.cell p3 nX, hK_.cell p4 nX, hK_.cell u4 nU⟩) ?_; exact q5)) ?_; clear hHeld hK K; intro hHeld; (try simp only [Act.put, List.setIfInBounds_toArray, List.set_cons_zero, List.set_cons_succ]))
            (refine one_ (i := 5) (N := (some 57)) #[true, true, true, true, true, true, false, false, false] rfl rfl (by kernel_rfl) (by decide) (fun K hK => ?_); go_simp; skip; (try go_wp2_with fail); refine hK.out _ _ (by (try dsimp only); (refine and_of' (fun hK_ => ⟨hK_.cell p0 nX, hK_.cell p1 nX, hK_.cell p2 nX, hK_.cell p3 nX, hK_.cell p4 nX, hK_.cell u4 nU⟩) ?_; exact q5.trans (Kq.of_below (below_alloc1 w5 _)))) ?_; clear hHeld hK K; intro hHeld; (try simp only [Act.put, List.setIfInBounds_toArray, List.set_cons_zero, List.set_cons_succ]))
            (refine one_ (i := 6) (N := (some 58)) #[true, true, true, true, true, true, true, false, false] rfl rfl (by kernel_rfl) (by decide) (fun K hK => ?_); (refine Kd.N_append_step kTy (w0 := w5) w.heap.size (by rfl) (.tmp 53) (.tmp 57) 23 25 (.agg #[(.int .i64 0), (.int .i64 0), (.string ⟨#[]⟩), (.slice none 0 0), (.slice none 0 0)]) 80 rfl Try.underlying23 info25 rfl (by decide) (by omega) (.slice Av xs.length cv) xs ov.1 (tcells ov.1 C3 q3 C4 q4) (fun k => B k ∨ gU < k) (fun k => B k ∨ W2.heap.size ≤ k) rfl rfl (hft5.mono (fun k hk => hk.imp id (fun hk => by simpa using hk))).fk ?aP ?aF HO5 (Below.refl _ _) (by have := q5.size; omega) (by have := HXL.out; omega) ?_; (case aP => exact fun k hk => ⟨by rcases hk with hk | hk; exact .inl hk; exact .inr (by omega), fun he => by have h1 := hbs k he.symm; have h2 := hlt0 k he.symm; rcases hk with hk | hk; (have hB_ := hB k hk; omega); omega⟩); (case aF => exact fun k hk => .inr (by have := q5.size; omega)); intro v1 w6 hN1 hB1 hg1 hat1; obtain ⟨A1, c1, rfl⟩ := Kd.N_slice hN1; have q6 : Kq (fun k => k = g ∨ some k = (Value.slice Av xs.length cv).ownBlock) W2 w6 := q5.trans ((Kq.of_grown hB1 hg1).mono (fun k hk => .inr hk))); refine hK.out _ _ (by (try dsimp only); (refine and_of' (fun hK_ => ⟨hK_.cell p0 nX, hK_.cell p1 nX, hK_.cell p2 nX, hK_.cell p3 nX, hK_.cell p4 nX, hK_.cell u4 nU⟩) ?_; exact q6)) ?_; clear hHeld hK K; intro hHeld; (try simp only [Act.put, List.setIfInBounds_toArray, List.set_cons_zero, List.set_cons_succ]))
            (refine take_ (i := 7) (N := (some 59)) (v := ?_) #[true, true, true, true, true, true, true, true, false] rfl rfl (by kernel_rfl) (fun _ _ _ h => h) (Or.inl ⟨by rfl, ?_⟩) hHeld rfl ?_; rotate_left 1; focus ((intro w hSw; (try dsimp only at hSw); first | (go_simp; done) | (go_simp; with_reducible rfl)); done); (try simp only [Act.put, List.setIfInBounds_toArray, List.set_cons_zero, List.set_cons_succ]))
            (refine last_ (i := 8) (N := none) #[true, true, true, true, true, true, true, true, true] rfl rfl (by kernel_rfl) (by decide) (fun K hK => ?_); (have kU6 := q6.blk kU nU; have fiveU := five kU6; obtain ⟨⟨w0', w1', w2', w3', w4'⟩, ⟨t0, t1, t2, t3, t4⟩, lu6⟩ := fiveU); go_simp; (try go_wp2_with fail); refine hK.out _ _ ?_; clear hK K; (try simp only [Act.put, List.setIfInBounds_toArray, List.set_cons_zero, List.set_cons_succ]))
            refine done_ (by kernel_rfl) ?_
            have b6 := And.left hHeld
            rw [show (xs ++ [ov.1]).length = xs.length + 1 from by simp] at hN1
            have hgo : ∀ k, k < w.heap.size → ¬ (some k = (Value.slice Av xs.length cv).ownBlock) := fun k hk he => by have := hbs k he.symm; omega
            have ne0 : ¬ (w.heap.size = g ∨ some w.heap.size = (Value.slice Av xs.length cv).ownBlock) := fun h => by rcases h with h | h; omega; (rcases hown _ h.symm with hb_ | hb_; (have := hB _ hb_; omega); omega)
            have ne1 : ¬ (w.heap.size + 1 = g ∨ some (w.heap.size + 1) = (Value.slice Av xs.length cv).ownBlock) := fun h => by rcases h with h | h; omega; (rcases hown _ h.symm with hb_ | hb_; (have := hB _ hb_; omega); omega)
            have kA7 := blk_far (q6.blk kA ne0) (p := ⟨gU, 4, none⟩) (by dsimp only; omega) (.slice A1 (xs.length + 1) c1)
            have kR7 := blk_far (q6.blk kR ne1) (p := ⟨gU, 4, none⟩) (by dsimp only; omega) (.slice A1 (xs.length + 1) c1)
            have kU7 := blk_set kU6 4 (.slice A1 (xs.length + 1) c1)
            have kG7 := blk_far (blk_grown hg5 hg1 (hgo g lg0)) (p := ⟨gU, 4, none⟩) (by dsimp only; omega) (.slice A1 (xs.length + 1) c1)
            have hN7 := Kd.N_far hN1 (p := ⟨gU, 4, none⟩) (fun k hk => by dsimp only; rcases hk with hk | hk; (have hB_ := hB k hk; omega); omega) (.slice A1 (xs.length + 1) c1)
            have q7 := (qX.then q6 (S := fun k => k = g) (fun k hk h => by rcases h with h | h; exact h; exact absurd h (hgo k hk))).set (p := ⟨gU, 4, none⟩) (.inr (by dsimp only; omega)) (.slice A1 (xs.length + 1) c1)
            have hmax : ov.2 ≤ 9223372036854775807 := by rw [← HOV.out]; exact over_max f _ _ hkc
            clear hHeld b6 hN1 hB1 hg1 hat1 q6 q5 hq5 hg5 HO5 HO hft5 kU6 w0' w1' w2' w3' w4' t0 t1 t2 t3 t4 lu6 p0 p1 p2 p3 p4 lx u0 u1 u2 u3 u4 lu' kX kA kR kU kG qX hb2 fx2
            generalize hX7 : w6.setCell _ _ = X7 at kA7 kR7 kU7 kG7 hN7 q7 ⊢
            clear hX7
            go_wp2
            go_roundg k1
            case measure => omega
            case rel => exact ⟨i + 1, xs ++ [ov.1], ov.2, .slice A1 (xs.length + 1) c1, (by first | rfl | (simp; done) | (push_cast; rfl)), by have := HK.out; omega, ⟨by rw [List.length_append, HXL.out]; rfl⟩, ⟨by rw [HC.out, List.drop_eq_getElem_cons hi, overAll_cons, HOV.out]; simp⟩, hmax, hN7, kU7, kA7, kR7, kG7, q7⟩
          · have cn : decide ((i : Int) < (t.f4.length : Int)) = false := decide_eq_false (by omega)
            rw [List.drop_eq_nil_of_le (show t.f4.length ≤ i by omega)] at HC
            have htf := HT1.out
            clear hk
            go_wp2
            (try simp only [Exit.inBlock, Exit.then])
            refine bodyPost_ret (results_cell_row rfl _ _ _ 25 _ (0, 0) _ rfl (stored kR _ _ _ _ _) Try.underlying25 rfl (by kernel_rfl)) rfl ?_
            refine OvOut.mk (u := ⟨t.f0, t.f1, t.f2, t.f3, xs⟩) (k := kc) (qr.set5 (.inr (by omega)) _ _ _ _ _) ?_ (blk_set5 kG (by omega) _ _ _ _ _) ((FT.set5 (w := wr) (ok := fun k => B k ∨ gU < k) (x := ⟨t.f0, t.f1, t.f2, t.f3, xs⟩) (A3 := A3) (c3 := c3) (A4 := Av) (c4 := cv) (g := w.heap.size + 1) ⟨htf.1, Kd.F_mono (Kd.F_step HT0.out.2.1 (fun k ho hl => qr.block k hl (by have hB_ := hB k ho; omega))) (fun k hk => .inl hk), (Kd.N_reads' HO).2.1, Kd.N_F HO⟩ (fun k hk => by rcases hk with hk | hk; (have hB_ := hB k hk; omega); omega) _ _ _ _ _).mono (fun k hk => by rcases hk with hk | hk; exact .inl hk; exact .inr (by omega)))
            rw [HQ2.out, HC.out]
            simp [overAll_nil]
    | some u =>
      refine with_cont (G := ?Gsome) ?cont fun hmain => ?reg
      case reg =>
        go_region_held3 (fun w' => Below WX.heap.size WX w' ∧ w'.cell? ⟨w.heap.size, 0, none⟩ = some (.int .i64 t.f0) ∧ w'.cell? ⟨w.heap.size, 1, none⟩ = some (.int .i64 t.f1) ∧ w'.cell? ⟨w.heap.size, 2, none⟩ = some (.string t.f2) ∧ w'.cell? ⟨w.heap.size, 3, none⟩ = some (.slice A3 t.f3.length c3) ∧ w'.cell? ⟨w.heap.size, 4, none⟩ = some (.slice A4 t.f4.length c4) ∧ w'.cell? ⟨g, 0, none⟩ = some ((.func (.func 68) #[] #[.pointer (some ⟨gm, 0, none⟩)])))
          ((refine and_of (fun hB_ => ⟨cell_up hB_ p0, cell_up hB_ p1, cell_up hB_ p2, cell_up hB_ p3, cell_up hB_ p4, cell_up hB_ g0⟩) ?_; first | (with_reducible exact (Below.refl _ _).drew) | (with_reducible exact ((Below.refl _ _).alloc (Nat.le_refl _) _).drew) | (with_reducible exact below_call' (And.left (by assumption)) (by assumption)) | (with_reducible exact below_realloc' (And.left (by assumption)) (by omega) _) | (with_reducible exact Below.alloc (And.left (by assumption)) (by first | omega | exact (And.left (by assumption)).size) _) | ((repeat' (with_reducible refine Below.setCell ?_ ?_ _)) <;> first | (exact Nat.le_refl WX.heap.size) | omega | (with_reducible exact And.left (by assumption)))))
          (first
            | (go_at_call 68; refine (hf _ (hwB.trans (Below.mono (And.left (by assumption)) hwB.size)) t A3 c3 A4 c4).mono ?_; rw [hft]; rintro e w5 ⟨hb5, C3, q3, C4, q4, rfl, hft5⟩; have sz := hb5.size; (try simp only [World.size_alloc, World.size_drew] at sz); first | (with_reducible have kT := blk_below (blk_new WX _) hb5; have zb := five kT) | (with_reducible have kT := blk_below (blk_drew (blk_new WX _)) hb5; have zb := five kT) | skip))
        · rename_i hH
          have kT1 := blk_new w5 (.cells #[.int .i64 u.f0, .int .i64 u.f1, .string u.f2, .slice C3 u.f3.length q3, .slice C4 u.f4.length q4] 25)
          have ft1 : FT _ (fun k => B k) u C3 q3 C4 q4 := hft5.below (below_alloc1 w5 (.cells #[.int .i64 u.f0, .int .i64 u.f1, .string u.f2, .slice C3 u.f3.length q3, .slice C4 u.f4.length q4] 25))
          have lT : WX.heap.size ≤ w5.heap.size := by omega
          have bX1 : Below WX.heap.size WX _ := hH.1
          clear hH
          generalize hX1 : World.alloc w5 _ = X1 at kT1 bX1 ft1 ⊢
          generalize hgT : w5.heap.size = gT at kT1 lT ⊢
          have lT2 := lT
          clear hft5
          clear hb5 sz lT hX1 hgT
          revert C3 q3 C4 q4 X1 gT
          exact hmain.out
        · rename_i hH
          have kT1 := stored kT (.int .i64 u.f0) (.int .i64 u.f1) (.string u.f2) (.slice C3 u.f3.length q3) (.slice C4 u.f4.length q4)
          have ft1 : FT _ (fun k => B k) u C3 q3 C4 q4 := hft5.stored (g := WX.heap.size) (fun k hk => by have hB_ := hB k hk; have := hwB.size; omega) (.int .i64 u.f0) (.int .i64 u.f1) (.string u.f2) (.slice C3 u.f3.length q3) (.slice C4 u.f4.length q4)
          have lT : WX.heap.size ≤ WX.heap.size := Nat.le_refl _
          have bX1 : Below WX.heap.size WX _ := hH.1
          clear hH
          generalize hX1 : World.setCell (World.setCell _ _ _) ⟨_, 4, none⟩ _ = X1 at kT1 bX1 ft1 ⊢
          obtain ⟨gT, hgT⟩ : ∃ gT, gT = WX.heap.size := ⟨_, rfl⟩
          rw [← hgT] at kT1 ⊢
          have lT2 : WX.heap.size ≤ gT := by omega
          clear hft5
          clear hb5 sz lT hX1 hgT kT zb
          revert C3 q3 C4 q4 X1 gT
          exact hmain.out
      case cont =>
        intro C3 q3 C4 q4 X1 bX1 ft1 gT kT1 lT2
        clear p0 p1 p2 p3 p4 la g0 g1 g2 g3 lg
        have br1 := chain b0 bX1
        have hwX := hwB.trans (bX1.mono hwB.size)
        replace kA := blk_below kA bX1
        replace kR := blk_below kR bX1
        replace kG := blk_below kG bX1
        have HQ2 : Aside0 (o = (u, wrap64 (kv - wrap64 (nodes u : Int)))) := ⟨by rw [HQ.out, hft]⟩
        have hsmu := hsu t u hft
        have szW := b0.size
        have ltG : WX.heap.size ≤ gT := lT2
        clear HQ hft lT2
        obtain ⟨⟨v0, v1, v2, v3, v4⟩, _, lv⟩ := five kT1
        obtain ⟨⟨g0, g1⟩, ⟨g2, g3⟩, lg⟩ := two kG
        go_wp2_with fail
        refine start_ (ds := [9]) (S := (fun w' => Below X1.heap.size X1 w' ∧ w'.cell? ⟨gT, 0, none⟩ = some (.int .i64 u.f0) ∧ w'.cell? ⟨gT, 1, none⟩ = some (.int .i64 u.f1) ∧ w'.cell? ⟨gT, 2, none⟩ = some (.string u.f2) ∧ w'.cell? ⟨gT, 3, none⟩ = some (.slice C3 u.f3.length q3) ∧ w'.cell? ⟨gT, 4, none⟩ = some (.slice C4 u.f4.length q4) ∧ w'.cell? ⟨g, 1, none⟩ = some (.int .i64 kv))) #[false, false, false, false, false, false, false, false, false, false] (by kernel_rfl) rfl rfl ?_ (fun hHeld => ?_)
        · (try dsimp only)
          ((refine and_of (fun hB_ => ⟨cell_up hB_ v0, cell_up hB_ v1, cell_up hB_ v2, cell_up hB_ v3, cell_up hB_ v4, cell_up hB_ g1⟩) ?_; first | (with_reducible exact (Below.refl _ _).drew) | (with_reducible exact below_call' (And.left (by assumption)) (by assumption)) | (with_reducible exact And.left (by assumption))))
        (refine take_ (i := 0) (N := (some 26)) (v := ?_) #[true, false, false, false, false, false, false, false, false, false] rfl rfl (by kernel_rfl) (fun _ _ _ h => h) (Or.inl ⟨by rfl, ?_⟩) hHeld rfl ?_; rotate_left 1; focus ((intro w hSw; (try dsimp only at hSw); first | (go_simp; done) | (go_simp; with_reducible rfl)); done); (try simp only [Act.put, List.setIfInBounds_toArray, List.set_cons_zero, List.set_cons_succ]))
        (refine take_ (i := 1) (N := (some 27)) (v := ?_) #[true, true, false, false, false, false, false, false, false, false] rfl rfl (by kernel_rfl) (fun _ _ _ h => h) (Or.inl ⟨by rfl, ?_⟩) hHeld rfl ?_; rotate_left 1; focus ((intro w hSw; (try dsimp only at hSw); first | (go_simp; done) | (go_simp; with_reducible rfl)); done); (try simp only [Act.put, List.setIfInBounds_toArray, List.set_cons_zero, List.set_cons_succ]))
        (refine take_ (i := 2) (N := (some 28)) (v := ?_) #[true, true, true, false, false, false, false, false, false, false] rfl rfl (by kernel_rfl) (fun _ _ _ h => h) (Or.inl ⟨by rfl, ?_⟩) hHeld rfl ?_; rotate_left 1; focus ((intro w hSw; (try dsimp only at hSw); first | (go_simp; done) | (go_simp; with_reducible rfl)); done); (try simp only [Act.put, List.setIfInBounds_toArray, List.set_cons_zero, List.set_cons_succ]))
        (refine take_ (i := 3) (N := (some 29)) (v := ?_) #[true, true, true, true, false, false, false, false, false, false] rfl rfl (by kernel_rfl) (fun _ _ _ h => h) (Or.inl ⟨by rfl, ?_⟩) hHeld rfl ?_; rotate_left 1; focus ((intro w hSw; (try dsimp only at hSw); first | (go_simp; done) | (go_simp; with_reducible rfl)); done); (try simp only [Act.put, List.setIfInBounds_toArray, List.set_cons_zero, List.set_cons_succ]))
        (refine take_ (i := 4) (N := (some 30)) (v := ?_) #[true, true, true, true, true, false, false, false, false, false] rfl rfl (by kernel_rfl) (fun _ _ _ h => h) (Or.inl ⟨by rfl, ?_⟩) hHeld rfl ?_; rotate_left 1; focus ((intro w hSw; (try dsimp only at hSw); first | (go_simp; done) | (go_simp; with_reducible rfl)); done); (try simp only [Act.put, List.setIfInBounds_toArray, List.set_cons_zero, List.set_cons_succ]))
        (refine one_ (i := 5) (N := (some 31)) #[true, true, true, true, true, true, false, false, false, false] rfl rfl (by kernel_rfl) (by decide) (fun K hK => ?_); go_simp; (go_at_call 102; refine (tyNodes_c u hsmu (FT.start ft1.1 (Kd.C_below ft1.r3 (And.left hHeld)) ft1.2.2.1 (Kd.C_below ft1.r4 (And.left hHeld)))).mono ?_; rintro e w6 ⟨rfl, hb6⟩); (try go_wp2_with fail); refine hK.out _ _ (by (try dsimp only); ((refine and_of (fun hB_ => ⟨cell_up hB_ v0, cell_up hB_ v1, cell_up hB_ v2, cell_up hB_ v3, cell_up hB_ v4, cell_up hB_ g1⟩) ?_; first | (with_reducible exact (Below.refl _ _).drew) | (with_reducible exact below_call' (And.left hHeld) hb6) | (with_reducible exact And.left (by assumption))))) ?_; clear hHeld hK K; intro hHeld; (try simp only [Act.put, List.setIfInBounds_toArray, List.set_cons_zero, List.set_cons_succ]))
        (refine take_ (i := 6) (N := (some 32)) (v := ?_) #[true, true, true, true, true, true, true, false, false, false] rfl rfl (by kernel_rfl) (fun _ _ _ h => h) (Or.inl ⟨by rfl, ?_⟩) hHeld rfl ?_; rotate_left 1; focus ((intro w hSw; (try dsimp only at hSw); first | (go_simp; done) | (go_simp; with_reducible rfl)); done); (try simp only [Act.put, List.setIfInBounds_toArray, List.set_cons_zero, List.set_cons_succ]))
        (refine take_ (i := 7) (N := (some 33)) (v := ?_) #[true, true, true, true, true, true, true, true, false, false] rfl rfl (by kernel_rfl) (fun _ _ _ h => h) (Or.inl ⟨by rfl, ?_⟩) hHeld rfl ?_; rotate_left 1; focus ((intro w hSw; (try dsimp only at hSw); first | (go_simp; done) | (go_simp; with_reducible rfl)); done); (try simp only [Act.put, List.setIfInBounds_toArray, List.set_cons_zero, List.set_cons_succ]))
        (refine take_ (i := 8) (N := (some 34)) (v := ?_) #[true, true, true, true, true, true, true, true, true, false] rfl rfl (by kernel_rfl) (fun _ _ _ h => h) (Or.inl ⟨by rfl, ?_⟩) hHeld rfl ?_; rotate_left 1; focus ((intro w hSw; (try dsimp only at hSw); first | (go_simp; done) | (go_simp; with_reducible rfl)); done); (try simp only [Act.put, List.setIfInBounds_toArray, List.set_cons_zero, List.set_cons_succ]))
        (refine last_ (i := 9) (N := none) #[true, true, true, true, true, true, true, true, true, true] rfl rfl (by kernel_rfl) (by decide) (fun K hK => ?_); (clear g0 g1 g2 g3 lg; have kG6 := blk_below (by first | exact kG | exact blk_drew kG) hb6; obtain ⟨⟨g0, g1⟩, ⟨g2, g3⟩, lg⟩ := two kG6); go_simp; (try go_wp2_with fail); refine hK.out _ _ ?_; clear hK K; (try simp only [Act.put, List.setIfInBounds_toArray, List.set_cons_zero, List.set_cons_succ]))
        refine done_ (by kernel_rfl) ?_
        have hiw : IntKind.i64.wrap (kv - wrap64 (nodes u : Int)) = wrap64 (kv - wrap64 (nodes u : Int)) := by first | rfl | simp [i64_w]
        rw [hiw]
        clear hiw
        have b6 := And.left hHeld
        have lgR : w.heap.size + 1 < WX.heap.size := lz
        have kR6 := blk_far (blk_below kR b6) (p := ⟨g, 1, none⟩) (by dsimp only; omega) (.int .i64 (wrap64 (kv - wrap64 (nodes u : Int))))
        have kT6 := blk_far (blk_below kT1 b6) (p := ⟨g, 1, none⟩) (by dsimp only; omega) (.int .i64 (wrap64 (kv - wrap64 (nodes u : Int))))
        have kGs := blk_set kG6 1 (.int .i64 (wrap64 (kv - wrap64 (nodes u : Int))))
        have ft6 := (ft1.below b6).far (p := ⟨g, 1, none⟩) (fun k hk => by have hB_ := hB k hk; dsimp only; omega) (.int .i64 (wrap64 (kv - wrap64 (nodes u : Int))))
        have q6 := ((Kq.of_below (S := fun k => k = g) br1).trans (Kq.of_below b6)).set (p := ⟨g, 1, none⟩) (.inl rfl) (.int .i64 (wrap64 (kv - wrap64 (nodes u : Int))))
        clear hHeld g0 g1 g2 g3 lg v0 v1 v2 v3 v4 lv kR kG kT1 kA hb6 kG6
        generalize hX2 : w6.setCell _ _ = X2 at kR6 kT6 kGs ft6 q6 ⊢
        clear hX2
        obtain ⟨⟨v0, v1, v2, v3, v4⟩, _, lv⟩ := five kT6
        obtain ⟨⟨r0, r1, r2, r3, r4⟩, ⟨s0, s1, s2, s3, s4⟩, lr⟩ := five kR6
        have kR := kR6
        go_wp2
        refine bodyPost_ret (results_cell_row rfl _ _ _ 25 _ (0, 0) _ rfl (stored kR _ _ _ _ _) Try.underlying25 rfl (by kernel_rfl)) rfl ?_
        exact OvOut.mk (q6.set5 (.inr (by omega)) _ _ _ _ _) HQ2.out (blk_set5 kGs (by omega) _ _ _ _ _) ((ft6.set5 (fun k hk => by have hB_ := hB k hk; omega) _ _ _ _ _).mono (fun k hk => .inl hk))
end Go.Proofs.Ytnfnhjhnfdkinaa.PSubstPuts
namespace Go.Proofs.Ytnfnhjhnfdkinaa.PSubstPuts
open Go.RowKit Go.Proofs.YtnfnhjhnfdkinaaW.Mine Go.Proofs.YtnfnhjhnfdkinaaW.PrintWords Go.Proofs.YtnfnhjhnfdkinaaW.PrintLast Go.Proofs.YtnfnhjhnfdkinaaW.PrintMore
attribute [local go_sem] max2_int min2_int max_two min_two max_three min_three max_four min_four
set_option linter.unusedVariables false
set_option linter.unusedSimpArgs false
/-- What done answers. -/
def doneO (f : Ty → Option Ty) (t : Ty) : Option Ty := if (over f t 300).2 < 0 then none else some (over f t 300).1
theorem threeb (w : World) (c d e : Array Value) (t1 t2 t3 : TypeId) : let W := ((w.alloc (.cells c t1)).alloc (.cells d t2)).alloc (.cells e t3)
    (W.heap[w.heap.size]? = some (.cells c t1 (0, 0)) ∧ W.heap[w.heap.size + 1]? = some (.cells d t2 (0, 0)) ∧ W.heap[w.heap.size + 1 + 1]? = some (.cells e t3 (0, 0))) ∧ Below w.heap.size w W ∧ W.heap.size = w.heap.size + 1 + 1 + 1 := by
  have k1 := blk_new (w.alloc (.cells c t1)) (.cells d t2)
  have k2 := blk_new ((w.alloc (.cells c t1)).alloc (.cells d t2)) (.cells e t3)
  simp only [World.size_alloc] at k1 k2
  exact ⟨⟨blk_alloc (blk_alloc (blk_new w _) _) _, blk_alloc k1 _, k2⟩, chain (chain (below_alloc1 _ _) (below_alloc1 _ _)) (below_alloc1 _ _), by simp only [World.size_alloc]⟩
set_option maxHeartbeats 8000000 in
set_option maxRecDepth 100000 in
theorem done_c (f : Ty → Option Ty) (w : World) (B : Nat → Prop) (hB : ∀ k, B k → k < w.heap.size) (gm : Nat) (hgm : gm < w.heap.size) (hsu : ∀ x u, f x = some u → Sm u)
    (hf : ∀ w', Below w.heap.size w w' → ∀ (x : Ty) (A3 : Option Addr) (c3 : Nat) (A4 : Option Addr) (c4 : Nat), Calls Try.prog 68 #[tv x A3 c3 A4 c4, .pointer (some ⟨gm, 0, none⟩)] w' (TOut w' (fun k => B k) (f x)))
    (t : Ty) (hsm : Sm t) (A3 : Option Addr) (c3 : Nat) (A4 : Option Addr) (c4 : Nat) (ht : FT w (fun k => B k) t A3 c3 A4 c4) :
    Calls Try.prog 62 #[tv t A3 c3 A4 c4, (.func (.func 68) #[] #[.pointer (some ⟨gm, 0, none⟩)])] w (TOut w (fun k => B k ∨ w.heap.size ≤ k) (doneO f t)) := by
  obtain ⟨⟨kA, kR, kG⟩, b0, sz0⟩ := threeb w #[.int .i64 t.f0, .int .i64 t.f1, .string t.f2, .slice A3 t.f3.length c3, .slice A4 t.f4.length c4] #[.int .i64 0, .int .i64 0, .string ⟨#[]⟩, .slice none 0 0, .slice none 0 0] #[(.func (.func 68) #[] #[.pointer (some ⟨gm, 0, none⟩)]), .int .i64 300] 25 25 99
  have hq : doneO f t = if (over f t 300).2 < 0 then none else some (over f t 300).1 := rfl
  generalize doneO f t = o at hq ⊢
  have HQ := Aside0.mk hq
  clear hq
  obtain ⟨⟨p0, p1, p2, p3, p4⟩, _, la⟩ := five kA
  obtain ⟨⟨g0, g1⟩, _, lg⟩ := two kG
  go_enter Try.func62, Try.ntmps62
  go_wp2_with fail
  refine (over_c f w B hB gm hgm hsu hf _ t (Nat.lt_succ_self _) hsm A3 c3 A4 c4 (w.heap.size + 1 + 1) 300 _ b0 (ht.below b0) (by omega) kG (by decide)).mono ?_
  generalize over f t 300 = ov at HQ ⊢
  obtain ⟨u, kc⟩ := ov
  rintro e w1 ⟨hq1, hg1, C3, q3, C4, q4, rfl, hf1⟩
  simp only at hg1 hf1 HQ ⊢
  clear p0 p1 p2 p3 p4 la g0 g1 lg
  have kR1 := hq1.blk kR (by omega)
  have q0 : Kq (fun k => k = w.heap.size + 1 + 1) w w1 := (Kq.of_below b0).trans hq1
  have b1 := q0.below (Nat.le_refl _) (fun k hk he => by omega)
  have bU := below_alloc1 w1 (.cells #[.int .i64 u.f0, .int .i64 u.f1, .string u.f2, .slice C3 u.f3.length q3, .slice C4 u.f4.length q4] 25)
  have kU := blk_new w1 (.cells #[.int .i64 u.f0, .int .i64 u.f1, .string u.f2, .slice C3 u.f3.length q3, .slice C4 u.f4.length q4] 25)
  have kR := blk_below kR1 bU
  have kG := blk_below hg1 bU
  have bF := chain b1 bU
  have fU := hf1.below bU
  have szw : w.heap.size ≤ w1.heap.size := b1.size
  clear hq1 hg1 hf1 kR1 q0 b1 kA b0
  obtain ⟨⟨u0, u1, u2, u3, u4⟩, _, lu⟩ := five kU
  obtain ⟨⟨g0, g1⟩, _, lg⟩ := two kG
  obtain ⟨⟨r0, r1, r2, r3, r4⟩, ⟨s0, s1, s2, s3, s4⟩, lr⟩ := five kR
  have SZ0 := Aside0.mk sz0
  clear sz0
  by_cases hneg : kc < 0
  · have c1 : decide (kc < 0) = true := decide_eq_true hneg
    have HN : Aside0 (o = none) := ⟨by rw [HQ.out, if_pos hneg]⟩
    clear HQ
    go_wp2
    (try simp only [Exit.inBlock, Exit.then]); refine bodyPost_ret (results_ct rfl _ _ _ 25 _ (0, 0) _ rfl (stored kR _ _ _ _ _) Try.underlying25 rfl (by kernel_rfl)) rfl ?_
    exact TOut.no (below_stored bF (by omega) _ _ _ _ _) HN.out
  · have c1 : decide (kc < 0) = false := decide_eq_false hneg
    have HN : Aside0 (o = some u) := ⟨by rw [HQ.out, if_neg hneg]⟩
    clear HQ
    go_wp2
    (try simp only [Exit.inBlock, Exit.then]); refine bodyPost_ret (results_ct rfl _ _ _ 25 _ (0, 0) _ rfl (stored kR _ _ _ _ _) Try.underlying25 rfl (by kernel_rfl)) rfl ?_
    exact TOut.yes (below_stored bF (by omega) _ _ _ _ _) HN.out ((fU.stored (fun k hk => by have := SZ0.out; rcases hk with hk | hk; (have hB_ := hB k hk; omega); omega) _ _ _ _ _).mono (fun k hk => by have := SZ0.out; rcases hk with hk | hk; exact .inl hk; exact .inr (by omega)))
end Go.Proofs.Ytnfnhjhnfdkinaa.PSubstPuts
namespace Go.Proofs.Ytnfnhjhnfdkinaa.PSubstPuts
open Go.RowKit Go.Proofs.YtnfnhjhnfdkinaaW.Mine Go.Proofs.YtnfnhjhnfdkinaaW.PrintWords Go.Proofs.YtnfnhjhnfdkinaaW.PrintLast Go.Proofs.YtnfnhjhnfdkinaaW.PrintMore
attribute [local go_sem] max2_int min2_int max_two min_two max_three min_three max_four min_four
set_option linter.unusedVariables false
set_option linter.unusedSimpArgs false
theorem TOut.mono {w w' : World} {ok ok' : Nat → Prop} {o : Option Ty} {e : Ending} (h : TOut w ok o e w') (hk : ∀ k, ok k → ok' k) : TOut w ok' o e w' := by
  cases o with
  | none => exact h
  | some u => obtain ⟨hb, A3, c3, A4, c4, he, hf⟩ := h; exact ⟨hb, A3, c3, A4, c4, he, hf.mono hk⟩
theorem turnPut_sm {m : List Bi} (hs : ∀ b, b ∈ m → Sm b.f1) (x u : Ty) (h : turnPut m x = some u) : Sm u := by
  unfold turnPut at h
  split at h
  · rename_i hc
    have hlt := bix_lt m x.f2
    have hi : (bix m x.f2).toNat < m.length := by omega
    rw [List.getD_eq_getElem?_getD, List.getElem?_eq_getElem hi] at h
    injection h with h
    subst h
    exact hs _ (List.getElem_mem hi)
  · cases h
def putO (m : List Bi) (t : Ty) : Option Ty := doneO (turnPut m) t
set_option maxHeartbeats 4000000 in
set_option maxRecDepth 100000 in
theorem put_c (m : List Bi) (hm : m.length * 16 ≤ 140737488351232) (hs : ∀ b, b ∈ m → Sm b.f1) {M : Option Addr} {cM : Nat} {ok : Nat → Prop} {w : World} (hok : ∀ k, ok k → k < w.heap.size) (hC : Kd.F kBi w ok M m.length m) (hcM : m.length ≤ cM) (t : Ty) (hsm : Sm t) {A3 : Option Addr} {c3 : Nat} {A4 : Option Addr} {c4 : Nat} (ht : FT w ok t A3 c3 A4 c4) :
    Calls Try.prog 31 #[tv t A3 c3 A4 c4, .slice M m.length cM] w (TOut w (fun k => ok k ∨ w.heap.size ≤ k) (putO m t)) := by
  show Calls _ _ _ _ (TOut w (fun k => ok k ∨ w.heap.size ≤ k) (doneO (turnPut m) t))
  obtain ⟨o, ho⟩ : ∃ o, doneO (turnPut m) t = o := ⟨_, rfl⟩
  rw [ho]
  have HO := Aside0.mk ho
  clear ho
  obtain ⟨⟨kA, kM, kR⟩, b0, sz0⟩ := threeb w #[.int .i64 t.f0, .int .i64 t.f1, .string t.f2, .slice A3 t.f3.length c3, .slice A4 t.f4.length c4] #[.slice M m.length cM] #[.int .i64 0, .int .i64 0, .string ⟨#[]⟩, .slice none 0 0, .slice none 0 0] 25 35 25
  obtain ⟨⟨p0, p1, p2, p3, p4⟩, _, la⟩ := five kA
  go_enter Try.func31, Try.ntmps31
  go_wp2_with fail
  clear p0 p1 p2 p3 p4 la
  generalize ((w.alloc (.cells #[.int .i64 t.f0, .int .i64 t.f1, .string t.f2, .slice A3 t.f3.length c3, .slice A4 t.f4.length c4] 25)).alloc (.cells #[.slice M m.length cM] 35)).alloc (.cells #[.int .i64 0, .int .i64 0, .string ⟨#[]⟩, .slice none 0 0, .slice none 0 0] 25) = W at kA kM kR b0 sz0 ⊢
  refine (done_c (turnPut m) W ok (fun k hk => Nat.lt_of_lt_of_le (hok k hk) b0.size) (w.heap.size + 1) (by omega) (turnPut_sm hs) (fun w' hw' x X3 e3 X4 e4 => (put1_c m hm hok (chain b0 hw') hC hcM (blk_up hw' kM) x X3 e3 X4 e4).mono fun e w'' h => h) t hsm A3 c3 A4 c4 (ht.below b0)).mono ?_
  rw [HO.out]
  clear HO
  have zW := b0.size
  cases o with
  | none =>
    rintro e w1 ⟨hb1, rfl⟩
    have kR := blk_up hb1 kR
    have bF := chain b0 hb1
    clear kA kM b0 hb1
    obtain ⟨⟨r0, r1, r2, r3, r4⟩, ⟨s0, s1, s2, s3, s4⟩, lr⟩ := five kR
    go_wp2
    (try simp only [Exit.inBlock, Exit.then]); refine bodyPost_ret (results_ct rfl _ _ _ 25 _ (0, 0) _ rfl (stored kR _ _ _ _ _) Try.underlying25 rfl (by kernel_rfl)) rfl ?_
    exact TOut.no (below_stored bF (by omega) _ _ _ _ _) rfl
  | some u =>
    rintro e w1 ⟨hb1, C3, q3, C4, q4, rfl, hf1⟩
    have kR := blk_up hb1 kR
    have bF := chain b0 hb1
    clear kA kM b0 hb1
    obtain ⟨⟨r0, r1, r2, r3, r4⟩, ⟨s0, s1, s2, s3, s4⟩, lr⟩ := five kR
    go_wp2
    (try simp only [Exit.inBlock, Exit.then]); refine bodyPost_ret (results_ct rfl _ _ _ 25 _ (0, 0) _ rfl (stored kR _ _ _ _ _) Try.underlying25 rfl (by kernel_rfl)) rfl ?_
    exact TOut.yes (below_stored bF (by omega) _ _ _ _ _) rfl ((hf1.stored (fun k hk => by rcases hk with hk | hk; (have hB_ := hok k hk; omega); omega) _ _ _ _ _).mono (fun k hk => by rcases hk with hk | hk; exact .inl hk; exact .inr (by omega)))
end Go.Proofs.Ytnfnhjhnfdkinaa.PSubstPuts
namespace Go.Proofs.Ytnfnhjhnfdkinaa.PSubstPuts
open Go.RowKit Go.Proofs.YtnfnhjhnfdkinaaW.Mine Go.Proofs.YtnfnhjhnfdkinaaW.PrintWords Go.Proofs.YtnfnhjhnfdkinaaW.PrintLast Go.Proofs.YtnfnhjhnfdkinaaW.PrintMore
attribute [local go_sem] max2_int min2_int max_two min_two max_three min_three max_four min_four
set_option linter.unusedVariables false
set_option linter.unusedSimpArgs false
theorem telt {w : World} {A : Option Addr} {l : List Ty} (h : kTy.C w A l.length l) (i : Nat) (hi : i < l.length) : ∃ ad A3 c3 A4 c4, A = some ad ∧ FT w (fun k => k < w.heap.size) l[i] A3 c3 A4 c4
    ∧ w.cell? (ad.add (i * 5)) = some (.int .i64 l[i].f0)
    ∧ w.cell? ⟨(ad.add (i * 5)).block, (ad.add (i * 5)).off + 1, none⟩ = some (.int .i64 l[i].f1)
    ∧ w.cell? ⟨(ad.add (i * 5)).block, (ad.add (i * 5)).off + 2, none⟩ = some (.string l[i].f2)
    ∧ w.cell? ⟨(ad.add (i * 5)).block, (ad.add (i * 5)).off + 3, none⟩ = some (.slice A3 l[i].f3.length c3)
    ∧ w.cell? ⟨(ad.add (i * 5)).block, (ad.add (i * 5)).off + 4, none⟩ = some (.slice A4 l[i].f4.length c4) := by
  obtain ⟨ad, A3, c3, A4, c4, e, h0, h1, h2, h3, h4, g3, r3, g4, r4⟩ := at_T25 h (i : Int) (by omega) (by omega)
  have q : rd_T25 l (i : Int) = l[i] := getD_at _ l i hi
  rw [q] at h0 h1 h2 h3 h4 g3 r3 g4 r4
  rw [Int.toNat_natCast] at h0 h1 h2 h3 h4
  exact ⟨ad, A3, c3, A4, c4, e, FT.start g3 r3 g4 r4, h0, h1, h2, h3, h4⟩
theorem ty_eta (u : Ty) : (⟨u.f0, u.f1, u.f2, u.f3, u.f4⟩ : Ty) = u := by cases u; rfl
/-- What All answers. -/
def allO (m : List Bi) : List Ty → Option (List Ty)
  | [] => some []
  | t :: l => match putO m t, allO m l with
    | some u, some us => some (u :: us)
    | _, _ => none
theorem allO_snoc (m : List Bi) : ∀ (l : List Ty) (t : Ty), allO m (l ++ [t]) = match allO m l, putO m t with
    | some us, some u => some (us ++ [u])
    | _, _ => none
  | [], t => by simp only [List.nil_append, allO]; cases putO m t <;> rfl
  | x :: l, t => by
    simp only [List.cons_append, allO, allO_snoc m l t]
    cases putO m x <;> cases allO m l <;> cases putO m t <;> rfl
theorem allO_none (m : List Bi) : ∀ (l : List Ty) (i : Nat) (hi : i < l.length), putO m l[i] = none → allO m l = none
  | x :: l, 0, hi, h => by simp only [List.getElem_cons_zero] at h; simp only [allO, h]
  | x :: l, i + 1, hi, h => by
    have := allO_none m l i (by simpa using hi) (by simpa using h)
    simp only [allO, this]; cases putO m x <;> rfl
/-- A list of types, read off a world. -/
def RL (w : World) (A : Option Addr) (c : Nat) (l : List Ty) : Prop := kTy.C w A l.length l ∧ l.length ≤ c
theorem RL.below {w w1 : World} {A : Option Addr} {c : Nat} {l : List Ty} (h : RL w A c l) (hb : Below w.heap.size w w1) : RL w1 A c l := ⟨Kd.C_below h.1 hb, h.2⟩
def AllOut (w : World) (o : Option (List Ty)) (e : Ending) (w' : World) : Prop := Below w.heap.size w w' ∧ match o with
  | none => e = .returned (.tuple #[.slice none 0 0, .bool false])
  | some us => ∃ A c, e = .returned (.tuple #[.slice A us.length c, .bool true]) ∧ RL w' A c us
theorem AllOut.no {w w' : World} {o : Option (List Ty)} (hb : Below w.heap.size w w') (ho : o = none) : AllOut w o (.returned (.tuple #[.slice none 0 0, .bool false])) w' := by
  subst ho; exact ⟨hb, rfl⟩
theorem AllOut.yes {w w' : World} {o : Option (List Ty)} {us : List Ty} {A : Option Addr} {c : Nat} (hb : Below w.heap.size w w') (ho : o = some us) (hr : RL w' A c us) : AllOut w o (.returned (.tuple #[.slice A us.length c, .bool true])) w' := by
  subst ho; exact ⟨hb, A, c, rfl, hr⟩
set_option maxHeartbeats 4000000 in
set_option maxRecDepth 100000 in
theorem all_c (m : List Bi) (hm : m.length * 16 ≤ 140737488351232) (hs : ∀ b, b ∈ m → Sm b.f1) (l : List Ty) (hl : l.length * 80 ≤ 140737488351232) (hls : ∀ y, y ∈ l → Sm y) {M L : Option Addr} {cM cL : Nat} {w : World} (hC : kBi.C w M m.length m) (hcM : m.length ≤ cM) (h : RL w L cL l) :
    Calls Try.prog 48 #[.slice L l.length cL, .slice M m.length cM] w (AllOut w (allO m l)) := by
  obtain ⟨o, ho⟩ : ∃ o, allO m l = o := ⟨_, rfl⟩
  rw [ho]
  have HO_ := Aside0.mk ho
  clear ho
  go_enter Try.func48, Try.ntmps48
  go_wp2_with fail
  go_loopg [6, 13] l.length (fun kq vv vi w' => ∃ (i : Nat) (v : Value) (La : List Ty), vv = v ∧ vi = .int .i64 i ∧ kq + i = l.length ∧ allO m (l.take i) = some La ∧ La.length = i ∧ Kd.N kTy 25 w' w.heap.size (fun _ => True) v La ∧ Below w.heap.size w w')
  case atStart => exact ⟨0, .slice none 0 0, [], rfl, rfl, rfl, rfl, rfl, Kd.N_nil _ _ _ _ _, Below.refl _ _⟩
  case round =>
    obtain ⟨i, v, La, rfl, rfl, hk, hAl, hLN, HO, br⟩ := hrel
    obtain ⟨Av, cv, rfl⟩ := Kd.N_slice HO
    have hle : i ≤ l.length := by omega
    have HLN : Aside0 (La.length = i) := ⟨hLN⟩
    have HAL : Aside0 (allO m (l.take i) = some La) := ⟨hAl⟩
    clear hLN hAl
    by_cases hi : i < l.length
    · obtain ⟨k1, rfl⟩ : ∃ k1, gk = k1 + 1 := ⟨gk - 1, by omega⟩
      have ci : decide ((i : Int) < (l.length : Int)) = true := decide_eq_true (by omega)
      obtain ⟨ad, X3, e3, X4, e4, hA, hr, x1, x2, x3, x4, x5⟩ := telt h.1 i hi
      subst hA
      have hf := hr.below br
      replace x1 := cell_up br x1
      replace x2 := cell_up br x2
      replace x3 := cell_up br x3
      replace x4 := cell_up br x4
      replace x5 := cell_up br x5
      have bT := below_alloc1 wr (.cells #[.int .i64 l[i].f0, .int .i64 l[i].f1, .string l[i].f2, .slice X3 l[i].f3.length e3, .slice X4 l[i].f4.length e4] 25)
      have kT := blk_new wr (.cells #[.int .i64 l[i].f0, .int .i64 l[i].f1, .string l[i].f2, .slice X3 l[i].f3.length e3, .slice X4 l[i].f4.length e4] 25)
      obtain ⟨⟨p0, p1, p2, p3, p4⟩, _, lp⟩ := five kT
      have hmem := hls _ (List.getElem_mem hi)
      have BT := Aside0.mk bT
      clear kT
      go_wp2_with fail
      refine (put_c m hm hs (ok := fun k => k < w.heap.size) (fun k hk => Nat.lt_of_lt_of_le hk (chain br bT).size) (Kd.F_below (Kd.C_F k43_heap hC) (chain br bT)) hcM l[i] hmem (hf.below bT)).mono ?_
      clear p0 p1 p2 p3 p4 lp x1 x2 x3 x4 x5 hf hr hmem
      have bT := BT.out
      have szT : wr.heap.size < (wr.alloc (.cells #[.int .i64 l[i].f0, .int .i64 l[i].f1, .string l[i].f2, .slice X3 l[i].f3.length e3, .slice X4 l[i].f4.length e4] 25)).heap.size := by rw [World.size_alloc]; omega
      replace br := chain br bT
      have hbs := Kd.N_base HO
      have hlt := Kd.N_lt HO
      replace HO := Kd.N_below HO bT
      clear bT BT
      generalize wr.alloc (.cells #[.int .i64 l[i].f0, .int .i64 l[i].f1, .string l[i].f2, .slice X3 l[i].f3.length e3, .slice X4 l[i].f4.length e4] 25) = wT at *
      rcases hp : putO m l[i] with _ | u
      · rintro e_ w5 ⟨hb5, rfl⟩
        have HN := Aside0.mk (allO_none m l i hi hp)
        have b5 := chain br hb5
        clear hp HO hbs hlt hb5
        go_wp2
        refine bodyPost_ret (results_tmp2 rfl _ _ _) rfl ?_
        exact AllOut.no (chain b5 (below_alloc1 _ _)) (by rw [← HO_.out, HN.out])
      · rintro e_ w5 ⟨hb5, B3, d3, B4, d4, rfl, hf5⟩
        have HP : Aside0 (putO m l[i] = some u) := ⟨hp⟩
        have br5 := chain br hb5
        replace HO := Kd.N_below HO hb5
        have bU := below_alloc1 w5 (.cells #[.int .i64 u.f0, .int .i64 u.f1, .string u.f2, .slice B3 u.f3.length d3, .slice B4 u.f4.length d4] 25)
        have kU := blk_new w5 (.cells #[.int .i64 u.f0, .int .i64 u.f1, .string u.f2, .slice B3 u.f3.length d3, .slice B4 u.f4.length d4] 25)
        obtain ⟨⟨p0, p1, p2, p3, p4⟩, _, lp⟩ := five kU
        replace HO := Kd.N_below HO bU
        have br6 := chain br5 bU
        have fk : Kd.FK kTy _ _ u [.int .i64 u.f0, .int .i64 u.f1, .string u.f2, .slice B3 u.f3.length d3, .slice B4 u.f4.length d4] := (hf5.below bU).fk
        have hokp : ∀ k, (fun k => k < w.heap.size ∨ wT.heap.size ≤ k) k → (fun _ : Nat => True) k ∧ some k ≠ (Value.slice Av La.length cv).ownBlock := fun k hk => ⟨trivial, fun he => by have h1 := hbs k he.symm; have h2 := hlt k he.symm; rcases hk with hk | hk <;> omega⟩
        have hfre : ∀ k, (w5.alloc (.cells #[.int .i64 u.f0, .int .i64 u.f1, .string u.f2, .slice B3 u.f3.length d3, .slice B4 u.f4.length d4] 25)).heap.size ≤ k → (fun _ : Nat => True) k := fun _ _ => trivial
        have hln : (La.length + 1) * 80 ≤ 140737488355328 := by have := HLN.out; omega
        have hlen : (La ++ [u]).length = i + 1 := by rw [List.length_append, HLN.out]; rfl
        clear hp hf5 hb5 bU kU hbs hlt br5
        go_wp2_with (first | (at_builtin; refine Kd.N_append kTy (w0 := w) w.heap.size rfl (.tmp 25) (.tmp 27) 23 25 (.agg #[(.int .i64 0), (.int .i64 0), (.string ⟨#[]⟩), (.slice none 0 0), (.slice none 0 0)]) 80 rfl Try.underlying23 info25 rfl (by decide) (by omega) (.slice Av La.length cv) La _ _ (fun _ : Nat => True) (fun k => k < w.heap.size ∨ wT.heap.size ≤ k) rfl (by rw [World.size_alloc]; rfl) fk hokp hfre HO br6 br6.size hln ?_; intro v1 w1 hN1 hB1 hg1 hat1; obtain ⟨A1, c1, rfl⟩ := Kd.N_slice hN1; rw [hlen] at hN1 ⊢))
        go_roundg k1
        case measure => omega
        case rel => exact ⟨i + 1, .slice A1 (i + 1) c1, La ++ [u], rfl, (by first | rfl | (simp; done) | (push_cast; rfl)), by omega, (by rw [List.take_succ_eq_append_getElem hi, allO_snoc, HAL.out, HP.out]), (by rw [List.length_append, HLN.out]; rfl), hN1, hB1⟩
    · have cn : decide ((i : Int) < (l.length : Int)) = false := decide_eq_false (by omega)
      have HAL' := HAL.out
      rw [List.take_of_length_le (by omega)] at HAL'
      have rl := Kd.N_reads' HO
      have HLa := Aside0.mk HAL'
      clear HAL HAL' hle HO HLN
      go_wp2
      (try simp only [Exit.inBlock, Exit.then])
      refine bodyPost_ret (results_tmp2 rfl _ _ _) rfl ?_
      exact AllOut.yes br (by rw [← HO_.out, HLa.out]) ⟨rl.2.2, rl.2.1⟩
end Go.Proofs.Ytnfnhjhnfdkinaa.PSubstPuts
namespace Go.Proofs.Ytnfnhjhnfdkinaa.PSubstPuts
open Go.RowKit Go.Proofs.YtnfnhjhnfdkinaaW.Mine Go.Proofs.YtnfnhjhnfdkinaaW.PrintWords Go.Proofs.YtnfnhjhnfdkinaaW.PrintLast Go.Proofs.YtnfnhjhnfdkinaaW.PrintMore
attribute [local go_sem] max2_int min2_int max_two min_two max_three min_three max_four min_four
set_option linter.unusedVariables false
set_option linter.unusedSimpArgs false
/-- As Sm, and each node's number within 64 bits. -/
inductive Sn : Ty → Prop
  | mk (x : Ty) (hl : x.f4.length * 80 ≤ 140737488351232) (hr : -9223372036854775808 ≤ x.f1 ∧ x.f1 ≤ 9223372036854775807) (hs : ∀ y, y ∈ x.f4 → Sn y) : Sn x
theorem Sn.len {x : Ty} (h : Sn x) : x.f4.length * 80 ≤ 140737488351232 := by cases h; assumption
theorem Sn.rng {x : Ty} (h : Sn x) : -9223372036854775808 ≤ x.f1 ∧ x.f1 ≤ 9223372036854775807 := by cases h; assumption
theorem Sn.all {x : Ty} (h : Sn x) : ∀ y, y ∈ x.f4 → Sn y := by cases h; assumption
set_option maxHeartbeats 20000000 in
set_option maxRecDepth 100000 in
theorem overO_c (f : Ty → Option Ty) (wb : World) (B : Nat → Prop) (hB : ∀ k, B k → k < wb.heap.size) (gm gf gl : Nat) (hgm : gm < wb.heap.size) (hsu : ∀ x u, f x = some u → Sm u)
    (hf : ∀ w', Below wb.heap.size wb w' → ∀ (x : Ty), Sn x → ∀ (A3 : Option Addr) (c3 : Nat) (A4 : Option Addr) (c4 : Nat), Calls Try.prog 63 #[tv x A3 c3 A4 c4, .pointer (some ⟨gm, 0, none⟩), .pointer (some ⟨gf, 0, none⟩), .pointer (some ⟨gl, 0, none⟩)] w' (TOut w' (fun k => B k) (f x))) :
    ∀ (n : Nat) (t : Ty), SizeOf.sizeOf t < n → Sn t → ∀ (A3 : Option Addr) (c3 : Nat) (A4 : Option Addr) (c4 : Nat) (g : Nat) (kv : Int) (w : World), Below wb.heap.size wb w → FT w (fun k => B k) t A3 c3 A4 c4 → wb.heap.size ≤ g → w.heap[g]? = some (.cells #[(.func (.func 63) #[] #[.pointer (some ⟨gm, 0, none⟩), .pointer (some ⟨gf, 0, none⟩), .pointer (some ⟨gl, 0, none⟩)]), .int .i64 kv] 99 (0, 0)) → kv ≤ 9223372036854775807 →
    Calls Try.prog 90 #[.pointer (some ⟨g, 0, none⟩), tv t A3 c3 A4 c4] w (OvOut B (.func (.func 63) #[] #[.pointer (some ⟨gm, 0, none⟩), .pointer (some ⟨gf, 0, none⟩), .pointer (some ⟨gl, 0, none⟩)]) w g (over f t kv))
  | 0, _, h, _ => absurd h (Nat.not_lt_zero _)
  | n + 1, t, hn, hsm => by
    intro A3 c3 A4 c4 g kv w hwb ht hgb hg0 hkv
    obtain ⟨⟨kA, kR⟩, b0⟩ := twob w t A3 c3 A4 c4 #[.int .i64 0, .int .i64 0, .string ⟨#[]⟩, .slice none 0 0, .slice none 0 0]
    have kG := blk_below hg0 b0
    have lg0 := blk_lt hg0
    have hq := over_eq f t kv
    generalize over f t kv = o at hq ⊢
    obtain ⟨⟨p0, p1, p2, p3, p4⟩, _, la⟩ := five kA
    obtain ⟨⟨r0, r1, r2, r3, r4⟩, ⟨s0, s1, s2, s3, s4⟩, lr⟩ := five kR
    obtain ⟨⟨g0, g1⟩, ⟨g2, g3⟩, lg⟩ := two kG
    by_cases h1 : kv < 0
    · rw [if_pos h1] at hq
      have e1 : decide (kv < 0) = true := decide_eq_true h1
      have HQ := Aside0.mk hq
      clear hq h1
      go_enter Try.func90, Try.ntmps90
      go_wp2
      refine bodyPost_ret (results_cell_row rfl _ _ _ 25 _ (0, 0) _ rfl kR Try.underlying25 rfl (by kernel_rfl)) rfl ?_
      exact OvOut.mk (Kq.of_below b0) HQ.out kG ⟨Nat.le_refl _, Kd.F_nil _ _ _, Nat.le_refl _, Kd.F_nil _ _ _⟩
    rw [if_neg h1] at hq
    have e1 : decide (kv < 0) = false := decide_eq_false h1
    have hwB := hwb.trans (b0.mono hwb.size)
    have HQ := Aside0.mk hq
    clear hq
    go_enter Try.func90, Try.ntmps90
    go_wp2_with fail
    have ht1 := ht.below b0
    have szb := hwb.size
    have lz := lr
    have hk0 : 0 ≤ kv := by omega
    have HT0 := Aside0.mk ht
    clear e1 h1 p0 p1 p2 p3 p4 la r0 r1 r2 r3 r4 s0 s1 s2 s3 s4 lr g0 g1 g2 g3 lg hg0 ht
    generalize hWX : (w.alloc (.cells #[.int .i64 t.f0, .int .i64 t.f1, .string t.f2, .slice A3 t.f3.length c3, .slice A4 t.f4.length c4] 25)).alloc (.cells #[.int .i64 0, .int .i64 0, .string ⟨#[]⟩, .slice none 0 0, .slice none 0 0] 25) = WX at kA kR kG b0 hwB ht1 lz ⊢
    clear hWX
    obtain ⟨⟨p0, p1, p2, p3, p4⟩, _, la⟩ := five kA
    obtain ⟨⟨g0, g1⟩, ⟨g2, g3⟩, lg⟩ := two kG
    cases hft : f t with
    | none =>
      refine with_cont (G := ?Gnone) ?cont fun hmain => ?reg
      case reg =>
        go_region_held3 (fun w' => Below WX.heap.size WX w' ∧ w'.cell? ⟨w.heap.size, 0, none⟩ = some (.int .i64 t.f0) ∧ w'.cell? ⟨w.heap.size, 1, none⟩ = some (.int .i64 t.f1) ∧ w'.cell? ⟨w.heap.size, 2, none⟩ = some (.string t.f2) ∧ w'.cell? ⟨w.heap.size, 3, none⟩ = some (.slice A3 t.f3.length c3) ∧ w'.cell? ⟨w.heap.size, 4, none⟩ = some (.slice A4 t.f4.length c4) ∧ w'.cell? ⟨g, 0, none⟩ = some ((.func (.func 63) #[] #[.pointer (some ⟨gm, 0, none⟩), .pointer (some ⟨gf, 0, none⟩), .pointer (some ⟨gl, 0, none⟩)])))
          ((refine and_of (fun hB_ => ⟨cell_up hB_ p0, cell_up hB_ p1, cell_up hB_ p2, cell_up hB_ p3, cell_up hB_ p4, cell_up hB_ g0⟩) ?_; first | (with_reducible exact (Below.refl _ _).drew) | (with_reducible exact ((Below.refl _ _).alloc (Nat.le_refl _) _).drew) | (with_reducible exact below_call' (And.left (by assumption)) (by assumption)) | (with_reducible exact below_realloc' (And.left (by assumption)) (by omega) _) | (with_reducible exact Below.alloc (And.left (by assumption)) (by first | omega | exact (And.left (by assumption)).size) _) | ((repeat' (with_reducible refine Below.setCell ?_ ?_ _)) <;> first | (exact Nat.le_refl WX.heap.size) | omega | (with_reducible exact And.left (by assumption)))))
          (first
            | (go_at_call 63; refine (hf _ (hwB.trans (Below.mono (And.left (by assumption)) hwB.size)) t hsm A3 c3 A4 c4).mono ?_; rw [hft]; rintro e w5 ⟨hb5, rfl⟩; have sz := hb5.size; (try simp only [World.size_alloc, World.size_drew] at sz); first | (with_reducible have kT := blk_below (blk_new WX _) hb5; have zb := five kT) | (with_reducible have kT := blk_below (blk_drew (blk_new WX _)) hb5; have zb := five kT) | skip))
        · rename_i hH
          have kT1 := blk_new w5 (.cells #[.int .i64 z25.f0, .int .i64 z25.f1, .string z25.f2, .slice none z25.f3.length 0, .slice none z25.f4.length 0] 25)
          have lT : WX.heap.size ≤ w5.heap.size := by omega
          have bX1 : Below WX.heap.size WX _ := hH.1
          clear hH
          generalize hX1 : World.alloc w5 _ = X1 at kT1 bX1 ⊢
          generalize hgT : w5.heap.size = gT at kT1 lT ⊢
          have lT2 := lT
          clear hb5 sz lT hX1 hgT
          revert X1 gT
          exact hmain.out
        · rename_i hH
          have kT1 := stored kT (.int .i64 z25.f0) (.int .i64 z25.f1) (.string z25.f2) (.slice none z25.f3.length 0) (.slice none z25.f4.length 0)
          have lT : WX.heap.size ≤ WX.heap.size := Nat.le_refl _
          have bX1 : Below WX.heap.size WX _ := hH.1
          clear hH
          generalize hX1 : World.setCell (World.setCell _ _ _) ⟨_, 4, none⟩ _ = X1 at kT1 bX1 ⊢
          obtain ⟨gT, hgT⟩ : ∃ gT, gT = WX.heap.size := ⟨_, rfl⟩
          rw [← hgT] at kT1 ⊢
          have lT2 : WX.heap.size ≤ gT := by omega
          clear hb5 sz lT hX1 hgT kT zb
          revert X1 gT
          exact hmain.out
      case cont =>
        intro X1 bX1 gT kT1 lT2
        clear p0 p1 p2 p3 p4 la g0 g1 g2 g3 lg kT1
        have br1 := chain b0 bX1
        have hwX := hwB.trans (bX1.mono hwB.size)
        replace kA := blk_below kA bX1
        replace kR := blk_below kR bX1
        replace kG := blk_below kG bX1
        have HQ2 : Aside0 (o = (⟨t.f0, t.f1, t.f2, t.f3, (overAll f t.f4 (kv - 1)).1⟩, (overAll f t.f4 (kv - 1)).2)) := ⟨by rw [HQ.out, hft]⟩
        have szW := b0.size
        have lzX : w.heap.size + 1 < X1.heap.size := Nat.lt_of_lt_of_le lz bX1.size
        clear HQ hft lT2
        have kG1 := blk_set kG 1 (.int .i64 (kv - 1))
        have kA1 := blk_far kA (p := ⟨g, 1, none⟩) (by dsimp only; omega) (.int .i64 (kv - 1))
        have kR1 := blk_far kR (p := ⟨g, 1, none⟩) (by dsimp only; omega) (.int .i64 (kv - 1))
        have q1 := (Kq.of_below (S := fun k => k = g) br1).set (p := ⟨g, 1, none⟩) (.inl rfl) (.int .i64 (kv - 1))
        have sz1 : (X1.setCell ⟨g, 1, none⟩ (.int .i64 (kv - 1))).heap.size = X1.heap.size := by simp [World.setCell]
        have kU := blk_new (X1.setCell ⟨g, 1, none⟩ (.int .i64 (kv - 1))) (.cells #[.int .i64 t.f0, .int .i64 t.f1, .string t.f2, .slice A3 t.f3.length c3, .slice none 0 0] 25)
        have bU := below_alloc1 (X1.setCell ⟨g, 1, none⟩ (.int .i64 (kv - 1))) (.cells #[.int .i64 t.f0, .int .i64 t.f1, .string t.f2, .slice A3 t.f3.length c3, .slice none 0 0] 25)
        replace kG1 := blk_below kG1 bU
        replace kA1 := blk_below kA1 bU
        replace kR1 := blk_below kR1 bU
        replace q1 := q1.trans (Kq.of_below bU)
        rw [sz1] at kU
        obtain ⟨⟨p0, p1, p2, p3, p4⟩, _, la⟩ := five kA
        obtain ⟨⟨g0, g1⟩, ⟨g2, g3⟩, lg⟩ := two kG
        have Q1 := Aside0.mk q1
        have KU := Aside0.mk kU
        have KG1 := Aside0.mk kG1
        have KA1 := Aside0.mk kA1
        have KR1 := Aside0.mk kR1
        have HWX := Aside0.mk hwX
        have HT1 := Aside0.mk ht1
        have SZ1 := Aside0.mk sz1
        have hsl := hsm.len
        clear q1 kU kG1 kA1 kR1 bU kA kR kG bX1 br1 hwB hwX b0 sz1 lz
        go_wp2_with fail
        clear p0 p1 p2 p3 p4 la g0 g1 g2 g3 lg
        have q1 := Q1.out
        have kU := KU.out
        have kG := KG1.out
        have kA := KA1.out
        have kR := KR1.out
        generalize hX2 : World.alloc (X1.setCell _ _) _ = X2 at q1 kU kG kA kR ⊢
        generalize hgU : X1.heap.size = gU at kU lzX ⊢
        clear hX2 hgU Q1 KU KG1 KA1 KR1 SZ1
        have hk1 : kv - 1 ≤ 9223372036854775807 := by omega
        go_loopg [48] t.f4.length (fun kq v48 w' => ∃ (i : Nat) (xs : List Ty) (kc : Int) (v : Value), v48 = .int .i64 i ∧ kq + i = t.f4.length ∧ Aside0 (xs.length = i) ∧ Aside0 (overAll f t.f4 (kv - 1) = (xs ++ (overAll f (t.f4.drop i) kc).1, (overAll f (t.f4.drop i) kc).2)) ∧ kc ≤ 9223372036854775807 ∧ Kd.N kTy 25 w' w.heap.size (fun k => B k ∨ gU < k) v xs ∧ w'.heap[gU]? = some (.cells #[.int .i64 t.f0, .int .i64 t.f1, .string t.f2, .slice A3 t.f3.length c3, v] 25 (0, 0)) ∧ w'.heap[w.heap.size]? = some (.cells #[.int .i64 t.f0, .int .i64 t.f1, .string t.f2, .slice A3 t.f3.length c3, .slice A4 t.f4.length c4] 25 (0, 0)) ∧ w'.heap[w.heap.size + 1]? = some (.cells #[.int .i64 0, .int .i64 0, .string ⟨#[]⟩, .slice none 0 0, .slice none 0 0] 25 (0, 0)) ∧ w'.heap[g]? = some (.cells #[(.func (.func 63) #[] #[.pointer (some ⟨gm, 0, none⟩), .pointer (some ⟨gf, 0, none⟩), .pointer (some ⟨gl, 0, none⟩)]), .int .i64 kc] 99 (0, 0)) ∧ Kq (fun k => k = g) w w')
        case atStart => exact ⟨0, [], kv - 1, .slice none 0 0, rfl, rfl, ⟨rfl⟩, ⟨by simp⟩, hk1, Kd.N_nil _ _ _ _ _, kU, kA, kR, kG, q1⟩
        case round =>
          clear kU kA kR kG q1
          obtain ⟨i, xs, kc, v, rfl, hk, HXL, HC, hkc, HO, kU, kA, kR, kG, qr⟩ := hrel
          obtain ⟨Av, cv, rfl⟩ := Kd.N_slice HO
          obtain ⟨⟨p0, p1, p2, p3, p4⟩, _, la⟩ := five kA
          obtain ⟨⟨u0, u1, u2, u3, u4⟩, ⟨t0, t1, t2, t3, t4⟩, lu⟩ := five kU
          obtain ⟨⟨r0, r1, r2, r3, r4⟩, ⟨s0, s1, s2, s3, s4⟩, lr⟩ := five kR
          by_cases hi : i < t.f4.length
          · obtain ⟨k1, rfl⟩ : ∃ k1, gk = k1 + 1 := ⟨gk - 1, by omega⟩
            have ci : decide ((i : Int) < (t.f4.length : Int)) = true := decide_eq_true (by omega)
            have i0 : (0 : Int) ≤ (i : Int) := by omega
            have i1 : (i : Int) < (t.f4.length : Int) := by omega
            have htf := HT0.out
            obtain ⟨ad, X3, e3, X4, e4, hA, fx, x0, x1, x2, x3, x4⟩ := elt htf.2.2.2 i hi
            subst hA
            have hab : ad.block < wb.heap.size := hB _ (elt_blk htf.2.2.2 i hi)
            have nxa : ∀ k, (ad.add k).block = ad.block := fun k => by unfold Addr.add; split <;> rfl
            have nxb : ¬ ((ad.add (i * 5)).block = g) := by rw [nxa]; omega
            replace x0 := qr.cell x0 nxb
            replace x1 := qr.cell x1 nxb
            replace x2 := qr.cell x2 nxb
            replace x3 := qr.cell x3 nxb
            replace x4 := qr.cell x4 nxb
            have HK := Aside0.mk hk
            clear nxa nxb hab hk htf hk1
            go_wp2_with fail
            have kX := blk_new wr (.cells #[.int .i64 t.f4[i].f0, .int .i64 t.f4[i].f1, .string t.f4[i].f2, .slice X3 t.f4[i].f3.length e3, .slice X4 t.f4[i].f4.length e4] 25)
            have bX := below_alloc1 wr (.cells #[.int .i64 t.f4[i].f0, .int .i64 t.f4[i].f1, .string t.f4[i].f2, .slice X3 t.f4[i].f3.length e3, .slice X4 t.f4[i].f4.length e4] 25)
            have qX := qr.trans (Kq.of_below (S := fun k => k = g) bX)
            have szX : wr.heap.size < (wr.alloc (.cells #[.int .i64 t.f4[i].f0, .int .i64 t.f4[i].f1, .string t.f4[i].f2, .slice X3 t.f4[i].f3.length e3, .slice X4 t.f4[i].f4.length e4] 25)).heap.size := by rw [World.size_alloc]; exact Nat.lt_succ_self _
            have hlt0 := Kd.N_lt HO
            have hbs := Kd.N_base HO
            have hown := HO.1
            replace kA := blk_below kA bX
            replace kR := blk_below kR bX
            replace kU := blk_below kU bX
            replace kG := blk_below kG bX
            replace HO := Kd.N_below HO bX
            have szr := qr.size
            clear p0 p1 p2 p3 p4 la r0 r1 r2 r3 r4 s0 s1 s2 s3 s4 lr u0 u1 u2 u3 u4 t0 t1 t2 t3 t4 x0 x1 x2 x3 x4 ci qr
            generalize hWX2 : wr.alloc _ = W2 at kX kA kR kU kG HO qX bX szX ⊢
            generalize hgX : wr.heap.size = gX at kX lu hlt0 szX szr ⊢
            clear hWX2 bX hgX
            have HGS := Aside0.mk (⟨fun h => by rcases h with h | h; omega; (have := hlt0 gX h.symm; omega), fun h => by rcases h with h | h; omega; (have h1_ := hbs gU h.symm; rcases hown gU h.symm with hb_ | hb_; (have := hB _ hb_; omega); omega)⟩ : (¬ (gX = g ∨ some gX = (Value.slice Av xs.length cv).ownBlock)) ∧ ¬ (gU = g ∨ some gU = (Value.slice Av xs.length cv).ownBlock))
            have nX : ¬ ((fun k => k = g ∨ some k = (Value.slice Av xs.length cv).ownBlock) gX) := HGS.out.1
            have nU : ¬ ((fun k => k = g ∨ some k = (Value.slice Av xs.length cv).ownBlock) gU) := HGS.out.2
            have hb2 : Below wb.heap.size wb W2 := hwb.trans (qX.below (B := wb.heap.size) szb (fun k hk he => by omega))
            have fx2 := fx.kq qX (fun k hk he => by have hB_ := hB k hk; omega)
            have hsz : SizeOf.sizeOf t.f4[i] < n := by have := size_args t t.f4[i] (List.getElem_mem hi); omega
            have hsmi := hsm.all _ (List.getElem_mem hi)
            obtain ⟨⟨p0, p1, p2, p3, p4⟩, _, lx⟩ := five kX
            obtain ⟨⟨u0, u1, u2, u3, u4⟩, _, lu'⟩ := five kU
            generalize hOV : over f t.f4[i] kc = ov
            have HOV := Aside0.mk hOV
            clear hOV
            refine start_ (ds := [8]) (S := (fun w' => Kq (fun k => k = g ∨ some k = (Value.slice Av xs.length cv).ownBlock) W2 w' ∧ w'.cell? ⟨gX, 0, none⟩ = some (.int .i64 t.f4[i].f0) ∧ w'.cell? ⟨gX, 1, none⟩ = some (.int .i64 t.f4[i].f1) ∧ w'.cell? ⟨gX, 2, none⟩ = some (.string t.f4[i].f2) ∧ w'.cell? ⟨gX, 3, none⟩ = some (.slice X3 t.f4[i].f3.length e3) ∧ w'.cell? ⟨gX, 4, none⟩ = some (.slice X4 t.f4[i].f4.length e4) ∧ w'.cell? ⟨gU, 4, none⟩ = some (.slice Av xs.length cv))) #[false, false, false, false, false, false, false, false, false] (by kernel_rfl) rfl rfl ?_ (fun hHeld => ?_)
            · (try dsimp only)
              (refine and_of' (fun hK_ => ⟨hK_.cell p0 nX, hK_.cell p1 nX, hK_.cell p2 nX, hK_.cell p3 nX, hK_.cell p4 nX, hK_.cell u4 nU⟩) ?_; exact Kq.of_below (Below.refl _ _).drew)
            (refine take_ (i := 0) (N := (some 52)) (v := ?_) #[true, false, false, false, false, false, false, false, false] rfl rfl (by kernel_rfl) (fun _ _ _ h => h) (Or.inl ⟨by rfl, ?_⟩) hHeld rfl ?_; rotate_left 1; focus ((intro w hSw; (try dsimp only at hSw); first | (go_simp; done) | (go_simp; with_reducible rfl)); done); (try simp only [Act.put, List.setIfInBounds_toArray, List.set_cons_zero, List.set_cons_succ]))
            (refine take_ (i := 1) (N := (some 53)) (v := ?_) #[true, true, false, false, false, false, false, false, false] rfl rfl (by kernel_rfl) (fun _ _ _ h => h) (Or.inl ⟨by rfl, ?_⟩) hHeld rfl ?_; rotate_left 1; focus ((intro w hSw; (try dsimp only at hSw); first | (go_simp; done) | (go_simp; with_reducible rfl)); done); (try simp only [Act.put, List.setIfInBounds_toArray, List.set_cons_zero, List.set_cons_succ]))
            (refine take_ (i := 2) (N := (some 54)) (v := ?_) #[true, true, true, false, false, false, false, false, false] rfl rfl (by kernel_rfl) (fun _ _ _ h => h) (Or.inl ⟨by rfl, ?_⟩) hHeld rfl ?_; rotate_left 1; focus ((intro w hSw; (try dsimp only at hSw); first | (go_simp; done) | (go_simp; with_reducible rfl)); done); (try simp only [Act.put, List.setIfInBounds_toArray, List.set_cons_zero, List.set_cons_succ]))
            (refine take_ (i := 3) (N := (some 55)) (v := ?_) #[true, true, true, true, false, false, false, false, false] rfl rfl (by kernel_rfl) (fun _ _ _ h => h) (Or.inl ⟨by rfl, ?_⟩) hHeld rfl ?_; rotate_left 1; focus ((intro w hSw; (try dsimp only at hSw); first | (go_simp; done) | (go_simp; with_reducible rfl)); done); (try simp only [Act.put, List.setIfInBounds_toArray, List.set_cons_zero, List.set_cons_succ]))
            (refine one_ (i := 4) (N := (some 56)) #[true, true, true, true, true, false, false, false, false] rfl rfl (by kernel_rfl) (by decide) (fun K hK => ?_); go_simp; (go_at_call 90; refine (overO_c f wb B hB gm gf gl hgm hsu hf n t.f4[i] hsz hsmi X3 e3 X4 e4 g kc _ (by first | exact hb2 | exact hb2.drew) (by first | exact fx2 | exact fx2.below (Below.refl _ _).drew) hgb (by first | exact kG | exact blk_drew kG) hkc).mono ?_; rw [HOV.out]; rintro e w5 ⟨hq5, hg5, C3, q3, C4, q4, rfl, hft5⟩; have HO5 := Kd.N_step (by first | exact HO | exact Kd.N_drew HO) (fun k hk hl => hq5.block k hl (by rcases hk with hk | hk; (have hB_ := hB k hk; omega); omega)); have q5 : Kq (fun k => k = g ∨ some k = (Value.slice Av xs.length cv).ownBlock) W2 w5 := (And.left hHeld).trans (hq5.mono (fun k hk => .inl hk))); (try go_wp2_with fail); refine hK.out _ _ (by (try dsimp only); (refine and_of' (fun hK_ => ⟨hK_.cell p0 nX, hK_.cell p1 nX, hK_.cell p2 nX, hK_.cell p3 nX, hK_.cell p4 nX, hK_.cell u4 nU⟩) ?_; exact q5)) ?_; clear hHeld hK K; intro hHeld; (try simp only [Act.put, List.setIfInBounds_toArray, List.set_cons_zero, List.set_cons_succ]))
            (refine one_ (i := 5) (N := (some 57)) #[true, true, true, true, true, true, false, false, false] rfl rfl (by kernel_rfl) (by decide) (fun K hK => ?_); go_simp; skip; (try go_wp2_with fail); refine hK.out _ _ (by (try dsimp only); (refine and_of' (fun hK_ => ⟨hK_.cell p0 nX, hK_.cell p1 nX, hK_.cell p2 nX, hK_.cell p3 nX, hK_.cell p4 nX, hK_.cell u4 nU⟩) ?_; exact q5.trans (Kq.of_below (below_alloc1 w5 _)))) ?_; clear hHeld hK K; intro hHeld; (try simp only [Act.put, List.setIfInBounds_toArray, List.set_cons_zero, List.set_cons_succ]))
            (refine one_ (i := 6) (N := (some 58)) #[true, true, true, true, true, true, true, false, false] rfl rfl (by kernel_rfl) (by decide) (fun K hK => ?_); (refine Kd.N_append_step kTy (w0 := w5) w.heap.size (by rfl) (.tmp 53) (.tmp 57) 23 25 (.agg #[(.int .i64 0), (.int .i64 0), (.string ⟨#[]⟩), (.slice none 0 0), (.slice none 0 0)]) 80 rfl Try.underlying23 info25 rfl (by decide) (by omega) (.slice Av xs.length cv) xs ov.1 (tcells ov.1 C3 q3 C4 q4) (fun k => B k ∨ gU < k) (fun k => B k ∨ W2.heap.size ≤ k) rfl rfl (hft5.mono (fun k hk => hk.imp id (fun hk => by simpa using hk))).fk ?aP ?aF HO5 (Below.refl _ _) (by have := q5.size; omega) (by have := HXL.out; omega) ?_; (case aP => exact fun k hk => ⟨by rcases hk with hk | hk; exact .inl hk; exact .inr (by omega), fun he => by have h1 := hbs k he.symm; have h2 := hlt0 k he.symm; rcases hk with hk | hk; (have hB_ := hB k hk; omega); omega⟩); (case aF => exact fun k hk => .inr (by have := q5.size; omega)); intro v1 w6 hN1 hB1 hg1 hat1; obtain ⟨A1, c1, rfl⟩ := Kd.N_slice hN1; have q6 : Kq (fun k => k = g ∨ some k = (Value.slice Av xs.length cv).ownBlock) W2 w6 := q5.trans ((Kq.of_grown hB1 hg1).mono (fun k hk => .inr hk))); refine hK.out _ _ (by (try dsimp only); (refine and_of' (fun hK_ => ⟨hK_.cell p0 nX, hK_.cell p1 nX, hK_.cell p2 nX, hK_.cell p3 nX, hK_.cell p4 nX, hK_.cell u4 nU⟩) ?_; exact q6)) ?_; clear hHeld hK K; intro hHeld; (try simp only [Act.put, List.setIfInBounds_toArray, List.set_cons_zero, List.set_cons_succ]))
            (refine take_ (i := 7) (N := (some 59)) (v := ?_) #[true, true, true, true, true, true, true, true, false] rfl rfl (by kernel_rfl) (fun _ _ _ h => h) (Or.inl ⟨by rfl, ?_⟩) hHeld rfl ?_; rotate_left 1; focus ((intro w hSw; (try dsimp only at hSw); first | (go_simp; done) | (go_simp; with_reducible rfl)); done); (try simp only [Act.put, List.setIfInBounds_toArray, List.set_cons_zero, List.set_cons_succ]))
            (refine last_ (i := 8) (N := none) #[true, true, true, true, true, true, true, true, true] rfl rfl (by kernel_rfl) (by decide) (fun K hK => ?_); (have kU6 := q6.blk kU nU; have fiveU := five kU6; obtain ⟨⟨w0', w1', w2', w3', w4'⟩, ⟨t0, t1, t2, t3, t4⟩, lu6⟩ := fiveU); go_simp; (try go_wp2_with fail); refine hK.out _ _ ?_; clear hK K; (try simp only [Act.put, List.setIfInBounds_toArray, List.set_cons_zero, List.set_cons_succ]))
            refine done_ (by kernel_rfl) ?_
            have b6 := And.left hHeld
            rw [show (xs ++ [ov.1]).length = xs.length + 1 from by simp] at hN1
            have hgo : ∀ k, k < w.heap.size → ¬ (some k = (Value.slice Av xs.length cv).ownBlock) := fun k hk he => by have := hbs k he.symm; omega
            have ne0 : ¬ (w.heap.size = g ∨ some w.heap.size = (Value.slice Av xs.length cv).ownBlock) := fun h => by rcases h with h | h; omega; (rcases hown _ h.symm with hb_ | hb_; (have := hB _ hb_; omega); omega)
            have ne1 : ¬ (w.heap.size + 1 = g ∨ some (w.heap.size + 1) = (Value.slice Av xs.length cv).ownBlock) := fun h => by rcases h with h | h; omega; (rcases hown _ h.symm with hb_ | hb_; (have := hB _ hb_; omega); omega)
            have kA7 := blk_far (q6.blk kA ne0) (p := ⟨gU, 4, none⟩) (by dsimp only; omega) (.slice A1 (xs.length + 1) c1)
            have kR7 := blk_far (q6.blk kR ne1) (p := ⟨gU, 4, none⟩) (by dsimp only; omega) (.slice A1 (xs.length + 1) c1)
            have kU7 := blk_set kU6 4 (.slice A1 (xs.length + 1) c1)
            have kG7 := blk_far (blk_grown hg5 hg1 (hgo g lg0)) (p := ⟨gU, 4, none⟩) (by dsimp only; omega) (.slice A1 (xs.length + 1) c1)
            have hN7 := Kd.N_far hN1 (p := ⟨gU, 4, none⟩) (fun k hk => by dsimp only; rcases hk with hk | hk; (have hB_ := hB k hk; omega); omega) (.slice A1 (xs.length + 1) c1)
            have q7 := (qX.then q6 (S := fun k => k = g) (fun k hk h => by rcases h with h | h; exact h; exact absurd h (hgo k hk))).set (p := ⟨gU, 4, none⟩) (.inr (by dsimp only; omega)) (.slice A1 (xs.length + 1) c1)
            have hmax : ov.2 ≤ 9223372036854775807 := by rw [← HOV.out]; exact over_max f _ _ hkc
            clear hHeld b6 hN1 hB1 hg1 hat1 q6 q5 hq5 hg5 HO5 HO hft5 kU6 w0' w1' w2' w3' w4' t0 t1 t2 t3 t4 lu6 p0 p1 p2 p3 p4 lx u0 u1 u2 u3 u4 lu' kX kA kR kU kG qX hb2 fx2
            generalize hX7 : w6.setCell _ _ = X7 at kA7 kR7 kU7 kG7 hN7 q7 ⊢
            clear hX7
            go_wp2
            go_roundg k1
            case measure => omega
            case rel => exact ⟨i + 1, xs ++ [ov.1], ov.2, .slice A1 (xs.length + 1) c1, (by first | rfl | (simp; done) | (push_cast; rfl)), by have := HK.out; omega, ⟨by rw [List.length_append, HXL.out]; rfl⟩, ⟨by rw [HC.out, List.drop_eq_getElem_cons hi, overAll_cons, HOV.out]; simp⟩, hmax, hN7, kU7, kA7, kR7, kG7, q7⟩
          · have cn : decide ((i : Int) < (t.f4.length : Int)) = false := decide_eq_false (by omega)
            rw [List.drop_eq_nil_of_le (show t.f4.length ≤ i by omega)] at HC
            have htf := HT1.out
            clear hk
            go_wp2
            (try simp only [Exit.inBlock, Exit.then])
            refine bodyPost_ret (results_cell_row rfl _ _ _ 25 _ (0, 0) _ rfl (stored kR _ _ _ _ _) Try.underlying25 rfl (by kernel_rfl)) rfl ?_
            refine OvOut.mk (u := ⟨t.f0, t.f1, t.f2, t.f3, xs⟩) (k := kc) (qr.set5 (.inr (by omega)) _ _ _ _ _) ?_ (blk_set5 kG (by omega) _ _ _ _ _) ((FT.set5 (w := wr) (ok := fun k => B k ∨ gU < k) (x := ⟨t.f0, t.f1, t.f2, t.f3, xs⟩) (A3 := A3) (c3 := c3) (A4 := Av) (c4 := cv) (g := w.heap.size + 1) ⟨htf.1, Kd.F_mono (Kd.F_step HT0.out.2.1 (fun k ho hl => qr.block k hl (by have hB_ := hB k ho; omega))) (fun k hk => .inl hk), (Kd.N_reads' HO).2.1, Kd.N_F HO⟩ (fun k hk => by rcases hk with hk | hk; (have hB_ := hB k hk; omega); omega) _ _ _ _ _).mono (fun k hk => by rcases hk with hk | hk; exact .inl hk; exact .inr (by omega)))
            rw [HQ2.out, HC.out]
            simp [overAll_nil]
    | some u =>
      refine with_cont (G := ?Gsome) ?cont fun hmain => ?reg
      case reg =>
        go_region_held3 (fun w' => Below WX.heap.size WX w' ∧ w'.cell? ⟨w.heap.size, 0, none⟩ = some (.int .i64 t.f0) ∧ w'.cell? ⟨w.heap.size, 1, none⟩ = some (.int .i64 t.f1) ∧ w'.cell? ⟨w.heap.size, 2, none⟩ = some (.string t.f2) ∧ w'.cell? ⟨w.heap.size, 3, none⟩ = some (.slice A3 t.f3.length c3) ∧ w'.cell? ⟨w.heap.size, 4, none⟩ = some (.slice A4 t.f4.length c4) ∧ w'.cell? ⟨g, 0, none⟩ = some ((.func (.func 63) #[] #[.pointer (some ⟨gm, 0, none⟩), .pointer (some ⟨gf, 0, none⟩), .pointer (some ⟨gl, 0, none⟩)])))
          ((refine and_of (fun hB_ => ⟨cell_up hB_ p0, cell_up hB_ p1, cell_up hB_ p2, cell_up hB_ p3, cell_up hB_ p4, cell_up hB_ g0⟩) ?_; first | (with_reducible exact (Below.refl _ _).drew) | (with_reducible exact ((Below.refl _ _).alloc (Nat.le_refl _) _).drew) | (with_reducible exact below_call' (And.left (by assumption)) (by assumption)) | (with_reducible exact below_realloc' (And.left (by assumption)) (by omega) _) | (with_reducible exact Below.alloc (And.left (by assumption)) (by first | omega | exact (And.left (by assumption)).size) _) | ((repeat' (with_reducible refine Below.setCell ?_ ?_ _)) <;> first | (exact Nat.le_refl WX.heap.size) | omega | (with_reducible exact And.left (by assumption)))))
          (first
            | (go_at_call 63; refine (hf _ (hwB.trans (Below.mono (And.left (by assumption)) hwB.size)) t hsm A3 c3 A4 c4).mono ?_; rw [hft]; rintro e w5 ⟨hb5, C3, q3, C4, q4, rfl, hft5⟩; have sz := hb5.size; (try simp only [World.size_alloc, World.size_drew] at sz); first | (with_reducible have kT := blk_below (blk_new WX _) hb5; have zb := five kT) | (with_reducible have kT := blk_below (blk_drew (blk_new WX _)) hb5; have zb := five kT) | skip))
        · rename_i hH
          have kT1 := blk_new w5 (.cells #[.int .i64 u.f0, .int .i64 u.f1, .string u.f2, .slice C3 u.f3.length q3, .slice C4 u.f4.length q4] 25)
          have ft1 : FT _ (fun k => B k) u C3 q3 C4 q4 := hft5.below (below_alloc1 w5 (.cells #[.int .i64 u.f0, .int .i64 u.f1, .string u.f2, .slice C3 u.f3.length q3, .slice C4 u.f4.length q4] 25))
          have lT : WX.heap.size ≤ w5.heap.size := by omega
          have bX1 : Below WX.heap.size WX _ := hH.1
          clear hH
          generalize hX1 : World.alloc w5 _ = X1 at kT1 bX1 ft1 ⊢
          generalize hgT : w5.heap.size = gT at kT1 lT ⊢
          have lT2 := lT
          clear hft5
          clear hb5 sz lT hX1 hgT
          revert C3 q3 C4 q4 X1 gT
          exact hmain.out
        · rename_i hH
          have kT1 := stored kT (.int .i64 u.f0) (.int .i64 u.f1) (.string u.f2) (.slice C3 u.f3.length q3) (.slice C4 u.f4.length q4)
          have ft1 : FT _ (fun k => B k) u C3 q3 C4 q4 := hft5.stored (g := WX.heap.size) (fun k hk => by have hB_ := hB k hk; have := hwB.size; omega) (.int .i64 u.f0) (.int .i64 u.f1) (.string u.f2) (.slice C3 u.f3.length q3) (.slice C4 u.f4.length q4)
          have lT : WX.heap.size ≤ WX.heap.size := Nat.le_refl _
          have bX1 : Below WX.heap.size WX _ := hH.1
          clear hH
          generalize hX1 : World.setCell (World.setCell _ _ _) ⟨_, 4, none⟩ _ = X1 at kT1 bX1 ft1 ⊢
          obtain ⟨gT, hgT⟩ : ∃ gT, gT = WX.heap.size := ⟨_, rfl⟩
          rw [← hgT] at kT1 ⊢
          have lT2 : WX.heap.size ≤ gT := by omega
          clear hft5
          clear hb5 sz lT hX1 hgT kT zb
          revert C3 q3 C4 q4 X1 gT
          exact hmain.out
      case cont =>
        intro C3 q3 C4 q4 X1 bX1 ft1 gT kT1 lT2
        clear p0 p1 p2 p3 p4 la g0 g1 g2 g3 lg
        have br1 := chain b0 bX1
        have hwX := hwB.trans (bX1.mono hwB.size)
        replace kA := blk_below kA bX1
        replace kR := blk_below kR bX1
        replace kG := blk_below kG bX1
        have HQ2 : Aside0 (o = (u, wrap64 (kv - wrap64 (nodes u : Int)))) := ⟨by rw [HQ.out, hft]⟩
        have hsmu := hsu t u hft
        have szW := b0.size
        have ltG : WX.heap.size ≤ gT := lT2
        clear HQ hft lT2
        obtain ⟨⟨v0, v1, v2, v3, v4⟩, _, lv⟩ := five kT1
        obtain ⟨⟨g0, g1⟩, ⟨g2, g3⟩, lg⟩ := two kG
        go_wp2_with fail
        refine start_ (ds := [9]) (S := (fun w' => Below X1.heap.size X1 w' ∧ w'.cell? ⟨gT, 0, none⟩ = some (.int .i64 u.f0) ∧ w'.cell? ⟨gT, 1, none⟩ = some (.int .i64 u.f1) ∧ w'.cell? ⟨gT, 2, none⟩ = some (.string u.f2) ∧ w'.cell? ⟨gT, 3, none⟩ = some (.slice C3 u.f3.length q3) ∧ w'.cell? ⟨gT, 4, none⟩ = some (.slice C4 u.f4.length q4) ∧ w'.cell? ⟨g, 1, none⟩ = some (.int .i64 kv))) #[false, false, false, false, false, false, false, false, false, false] (by kernel_rfl) rfl rfl ?_ (fun hHeld => ?_)
        · (try dsimp only)
          ((refine and_of (fun hB_ => ⟨cell_up hB_ v0, cell_up hB_ v1, cell_up hB_ v2, cell_up hB_ v3, cell_up hB_ v4, cell_up hB_ g1⟩) ?_; first | (with_reducible exact (Below.refl _ _).drew) | (with_reducible exact below_call' (And.left (by assumption)) (by assumption)) | (with_reducible exact And.left (by assumption))))
        (refine take_ (i := 0) (N := (some 26)) (v := ?_) #[true, false, false, false, false, false, false, false, false, false] rfl rfl (by kernel_rfl) (fun _ _ _ h => h) (Or.inl ⟨by rfl, ?_⟩) hHeld rfl ?_; rotate_left 1; focus ((intro w hSw; (try dsimp only at hSw); first | (go_simp; done) | (go_simp; with_reducible rfl)); done); (try simp only [Act.put, List.setIfInBounds_toArray, List.set_cons_zero, List.set_cons_succ]))
        (refine take_ (i := 1) (N := (some 27)) (v := ?_) #[true, true, false, false, false, false, false, false, false, false] rfl rfl (by kernel_rfl) (fun _ _ _ h => h) (Or.inl ⟨by rfl, ?_⟩) hHeld rfl ?_; rotate_left 1; focus ((intro w hSw; (try dsimp only at hSw); first | (go_simp; done) | (go_simp; with_reducible rfl)); done); (try simp only [Act.put, List.setIfInBounds_toArray, List.set_cons_zero, List.set_cons_succ]))
        (refine take_ (i := 2) (N := (some 28)) (v := ?_) #[true, true, true, false, false, false, false, false, false, false] rfl rfl (by kernel_rfl) (fun _ _ _ h => h) (Or.inl ⟨by rfl, ?_⟩) hHeld rfl ?_; rotate_left 1; focus ((intro w hSw; (try dsimp only at hSw); first | (go_simp; done) | (go_simp; with_reducible rfl)); done); (try simp only [Act.put, List.setIfInBounds_toArray, List.set_cons_zero, List.set_cons_succ]))
        (refine take_ (i := 3) (N := (some 29)) (v := ?_) #[true, true, true, true, false, false, false, false, false, false] rfl rfl (by kernel_rfl) (fun _ _ _ h => h) (Or.inl ⟨by rfl, ?_⟩) hHeld rfl ?_; rotate_left 1; focus ((intro w hSw; (try dsimp only at hSw); first | (go_simp; done) | (go_simp; with_reducible rfl)); done); (try simp only [Act.put, List.setIfInBounds_toArray, List.set_cons_zero, List.set_cons_succ]))
        (refine take_ (i := 4) (N := (some 30)) (v := ?_) #[true, true, true, true, true, false, false, false, false, false] rfl rfl (by kernel_rfl) (fun _ _ _ h => h) (Or.inl ⟨by rfl, ?_⟩) hHeld rfl ?_; rotate_left 1; focus ((intro w hSw; (try dsimp only at hSw); first | (go_simp; done) | (go_simp; with_reducible rfl)); done); (try simp only [Act.put, List.setIfInBounds_toArray, List.set_cons_zero, List.set_cons_succ]))
        (refine one_ (i := 5) (N := (some 31)) #[true, true, true, true, true, true, false, false, false, false] rfl rfl (by kernel_rfl) (by decide) (fun K hK => ?_); go_simp; (go_at_call 102; refine (tyNodes_c u hsmu (FT.start ft1.1 (Kd.C_below ft1.r3 (And.left hHeld)) ft1.2.2.1 (Kd.C_below ft1.r4 (And.left hHeld)))).mono ?_; rintro e w6 ⟨rfl, hb6⟩); (try go_wp2_with fail); refine hK.out _ _ (by (try dsimp only); ((refine and_of (fun hB_ => ⟨cell_up hB_ v0, cell_up hB_ v1, cell_up hB_ v2, cell_up hB_ v3, cell_up hB_ v4, cell_up hB_ g1⟩) ?_; first | (with_reducible exact (Below.refl _ _).drew) | (with_reducible exact below_call' (And.left hHeld) hb6) | (with_reducible exact And.left (by assumption))))) ?_; clear hHeld hK K; intro hHeld; (try simp only [Act.put, List.setIfInBounds_toArray, List.set_cons_zero, List.set_cons_succ]))
        (refine take_ (i := 6) (N := (some 32)) (v := ?_) #[true, true, true, true, true, true, true, false, false, false] rfl rfl (by kernel_rfl) (fun _ _ _ h => h) (Or.inl ⟨by rfl, ?_⟩) hHeld rfl ?_; rotate_left 1; focus ((intro w hSw; (try dsimp only at hSw); first | (go_simp; done) | (go_simp; with_reducible rfl)); done); (try simp only [Act.put, List.setIfInBounds_toArray, List.set_cons_zero, List.set_cons_succ]))
        (refine take_ (i := 7) (N := (some 33)) (v := ?_) #[true, true, true, true, true, true, true, true, false, false] rfl rfl (by kernel_rfl) (fun _ _ _ h => h) (Or.inl ⟨by rfl, ?_⟩) hHeld rfl ?_; rotate_left 1; focus ((intro w hSw; (try dsimp only at hSw); first | (go_simp; done) | (go_simp; with_reducible rfl)); done); (try simp only [Act.put, List.setIfInBounds_toArray, List.set_cons_zero, List.set_cons_succ]))
        (refine take_ (i := 8) (N := (some 34)) (v := ?_) #[true, true, true, true, true, true, true, true, true, false] rfl rfl (by kernel_rfl) (fun _ _ _ h => h) (Or.inl ⟨by rfl, ?_⟩) hHeld rfl ?_; rotate_left 1; focus ((intro w hSw; (try dsimp only at hSw); first | (go_simp; done) | (go_simp; with_reducible rfl)); done); (try simp only [Act.put, List.setIfInBounds_toArray, List.set_cons_zero, List.set_cons_succ]))
        (refine last_ (i := 9) (N := none) #[true, true, true, true, true, true, true, true, true, true] rfl rfl (by kernel_rfl) (by decide) (fun K hK => ?_); (clear g0 g1 g2 g3 lg; have kG6 := blk_below (by first | exact kG | exact blk_drew kG) hb6; obtain ⟨⟨g0, g1⟩, ⟨g2, g3⟩, lg⟩ := two kG6); go_simp; (try go_wp2_with fail); refine hK.out _ _ ?_; clear hK K; (try simp only [Act.put, List.setIfInBounds_toArray, List.set_cons_zero, List.set_cons_succ]))
        refine done_ (by kernel_rfl) ?_
        have hiw : IntKind.i64.wrap (kv - wrap64 (nodes u : Int)) = wrap64 (kv - wrap64 (nodes u : Int)) := by first | rfl | simp [i64_w]
        rw [hiw]
        clear hiw
        have b6 := And.left hHeld
        have lgR : w.heap.size + 1 < WX.heap.size := lz
        have kR6 := blk_far (blk_below kR b6) (p := ⟨g, 1, none⟩) (by dsimp only; omega) (.int .i64 (wrap64 (kv - wrap64 (nodes u : Int))))
        have kT6 := blk_far (blk_below kT1 b6) (p := ⟨g, 1, none⟩) (by dsimp only; omega) (.int .i64 (wrap64 (kv - wrap64 (nodes u : Int))))
        have kGs := blk_set kG6 1 (.int .i64 (wrap64 (kv - wrap64 (nodes u : Int))))
        have ft6 := (ft1.below b6).far (p := ⟨g, 1, none⟩) (fun k hk => by have hB_ := hB k hk; dsimp only; omega) (.int .i64 (wrap64 (kv - wrap64 (nodes u : Int))))
        have q6 := ((Kq.of_below (S := fun k => k = g) br1).trans (Kq.of_below b6)).set (p := ⟨g, 1, none⟩) (.inl rfl) (.int .i64 (wrap64 (kv - wrap64 (nodes u : Int))))
        clear hHeld g0 g1 g2 g3 lg v0 v1 v2 v3 v4 lv kR kG kT1 kA hb6 kG6
        generalize hX2 : w6.setCell _ _ = X2 at kR6 kT6 kGs ft6 q6 ⊢
        clear hX2
        obtain ⟨⟨v0, v1, v2, v3, v4⟩, _, lv⟩ := five kT6
        obtain ⟨⟨r0, r1, r2, r3, r4⟩, ⟨s0, s1, s2, s3, s4⟩, lr⟩ := five kR6
        have kR := kR6
        go_wp2
        refine bodyPost_ret (results_cell_row rfl _ _ _ 25 _ (0, 0) _ rfl (stored kR _ _ _ _ _) Try.underlying25 rfl (by kernel_rfl)) rfl ?_
        exact OvOut.mk (q6.set5 (.inr (by omega)) _ _ _ _ _) HQ2.out (blk_set5 kGs (by omega) _ _ _ _ _) ((ft6.set5 (fun k hk => by have hB_ := hB k hk; omega) _ _ _ _ _).mono (fun k hk => .inl hk))
set_option maxHeartbeats 8000000 in
set_option maxRecDepth 100000 in
theorem doneO_c (f : Ty → Option Ty) (w : World) (B : Nat → Prop) (hB : ∀ k, B k → k < w.heap.size) (gm gf gl : Nat) (hgm : gm < w.heap.size) (hsu : ∀ x u, f x = some u → Sm u)
    (hf : ∀ w', Below w.heap.size w w' → ∀ (x : Ty), Sn x → ∀ (A3 : Option Addr) (c3 : Nat) (A4 : Option Addr) (c4 : Nat), Calls Try.prog 63 #[tv x A3 c3 A4 c4, .pointer (some ⟨gm, 0, none⟩), .pointer (some ⟨gf, 0, none⟩), .pointer (some ⟨gl, 0, none⟩)] w' (TOut w' (fun k => B k) (f x)))
    (t : Ty) (hsm : Sn t) (A3 : Option Addr) (c3 : Nat) (A4 : Option Addr) (c4 : Nat) (ht : FT w (fun k => B k) t A3 c3 A4 c4) :
    Calls Try.prog 62 #[tv t A3 c3 A4 c4, (.func (.func 63) #[] #[.pointer (some ⟨gm, 0, none⟩), .pointer (some ⟨gf, 0, none⟩), .pointer (some ⟨gl, 0, none⟩)])] w (TOut w (fun k => B k ∨ w.heap.size ≤ k) (doneO f t)) := by
  obtain ⟨⟨kA, kR, kG⟩, b0, sz0⟩ := threeb w #[.int .i64 t.f0, .int .i64 t.f1, .string t.f2, .slice A3 t.f3.length c3, .slice A4 t.f4.length c4] #[.int .i64 0, .int .i64 0, .string ⟨#[]⟩, .slice none 0 0, .slice none 0 0] #[(.func (.func 63) #[] #[.pointer (some ⟨gm, 0, none⟩), .pointer (some ⟨gf, 0, none⟩), .pointer (some ⟨gl, 0, none⟩)]), .int .i64 300] 25 25 99
  have hq : doneO f t = if (over f t 300).2 < 0 then none else some (over f t 300).1 := rfl
  generalize doneO f t = o at hq ⊢
  have HQ := Aside0.mk hq
  clear hq
  obtain ⟨⟨p0, p1, p2, p3, p4⟩, _, la⟩ := five kA
  obtain ⟨⟨g0, g1⟩, _, lg⟩ := two kG
  go_enter Try.func62, Try.ntmps62
  go_wp2_with fail
  refine (overO_c f w B hB gm gf gl hgm hsu hf _ t (Nat.lt_succ_self _) hsm A3 c3 A4 c4 (w.heap.size + 1 + 1) 300 _ b0 (ht.below b0) (by omega) kG (by decide)).mono ?_
  generalize over f t 300 = ov at HQ ⊢
  obtain ⟨u, kc⟩ := ov
  rintro e w1 ⟨hq1, hg1, C3, q3, C4, q4, rfl, hf1⟩
  simp only at hg1 hf1 HQ ⊢
  clear p0 p1 p2 p3 p4 la g0 g1 lg
  have kR1 := hq1.blk kR (by omega)
  have q0 : Kq (fun k => k = w.heap.size + 1 + 1) w w1 := (Kq.of_below b0).trans hq1
  have b1 := q0.below (Nat.le_refl _) (fun k hk he => by omega)
  have bU := below_alloc1 w1 (.cells #[.int .i64 u.f0, .int .i64 u.f1, .string u.f2, .slice C3 u.f3.length q3, .slice C4 u.f4.length q4] 25)
  have kU := blk_new w1 (.cells #[.int .i64 u.f0, .int .i64 u.f1, .string u.f2, .slice C3 u.f3.length q3, .slice C4 u.f4.length q4] 25)
  have kR := blk_below kR1 bU
  have kG := blk_below hg1 bU
  have bF := chain b1 bU
  have fU := hf1.below bU
  have szw : w.heap.size ≤ w1.heap.size := b1.size
  clear hq1 hg1 hf1 kR1 q0 b1 kA b0
  obtain ⟨⟨u0, u1, u2, u3, u4⟩, _, lu⟩ := five kU
  obtain ⟨⟨g0, g1⟩, _, lg⟩ := two kG
  obtain ⟨⟨r0, r1, r2, r3, r4⟩, ⟨s0, s1, s2, s3, s4⟩, lr⟩ := five kR
  have SZ0 := Aside0.mk sz0
  clear sz0
  by_cases hneg : kc < 0
  · have c1 : decide (kc < 0) = true := decide_eq_true hneg
    have HN : Aside0 (o = none) := ⟨by rw [HQ.out, if_pos hneg]⟩
    clear HQ
    go_wp2
    (try simp only [Exit.inBlock, Exit.then]); refine bodyPost_ret (results_ct rfl _ _ _ 25 _ (0, 0) _ rfl (stored kR _ _ _ _ _) Try.underlying25 rfl (by kernel_rfl)) rfl ?_
    exact TOut.no (below_stored bF (by omega) _ _ _ _ _) HN.out
  · have c1 : decide (kc < 0) = false := decide_eq_false hneg
    have HN : Aside0 (o = some u) := ⟨by rw [HQ.out, if_neg hneg]⟩
    clear HQ
    go_wp2
    (try simp only [Exit.inBlock, Exit.then]); refine bodyPost_ret (results_ct rfl _ _ _ 25 _ (0, 0) _ rfl (stored kR _ _ _ _ _) Try.underlying25 rfl (by kernel_rfl)) rfl ?_
    exact TOut.yes (below_stored bF (by omega) _ _ _ _ _) HN.out ((fU.stored (fun k hk => by have := SZ0.out; rcases hk with hk | hk; (have hB_ := hB k hk; omega); omega) _ _ _ _ _).mono (fun k hk => by have := SZ0.out; rcases hk with hk | hk; exact .inl hk; exact .inr (by omega)))
end Go.Proofs.Ytnfnhjhnfdkinaa.PSubstPuts
namespace Go.Proofs.Ytnfnhjhnfdkinaa.PSubstPuts
open Go.RowKit Go.Proofs.YtnfnhjhnfdkinaaW.Mine Go.Proofs.YtnfnhjhnfdkinaaW.PrintWords Go.Proofs.YtnfnhjhnfdkinaaW.PrintLast Go.Proofs.YtnfnhjhnfdkinaaW.PrintMore
attribute [local go_sem] max2_int min2_int max_two min_two max_three min_three max_four min_four
set_option linter.unusedVariables false
set_option linter.unusedSimpArgs false
def turnOpen (may : Bool) (a : Int) (l : List Ty) (x : Ty) : Option Ty := if may = true ∧ x.f0 = 9 ∧ a ≤ x.f1 ∧ x.f1 - a < (l.length : Int) then some (l.getD (x.f1 - a).toNat z25) else none
theorem turnOpen_no {may : Bool} {a : Int} {l : List Ty} {x : Ty} (h : ¬ (may = true ∧ x.f0 = 9 ∧ a ≤ x.f1 ∧ x.f1 - a < (l.length : Int))) : turnOpen may a l x = none := if_neg h
theorem turnOpen_yes {a : Int} {l : List Ty} {x : Ty} {i : Nat} (h9 : x.f0 = 9) (hi : x.f1 = a + (i : Int)) (hl : i < l.length) : turnOpen true a l x = some l[i] := by
  unfold turnOpen
  rw [if_pos ⟨rfl, h9, by omega, by omega⟩, show (x.f1 - a).toNat = i by omega, List.getD_eq_getElem?_getD, List.getElem?_eq_getElem hl]; rfl
theorem turnOpen_sm {may : Bool} {a : Int} {l : List Ty} (hs : ∀ y, y ∈ l → Sm y) (x u : Ty) (h : turnOpen may a l x = some u) : Sm u := by
  unfold turnOpen at h
  split at h
  · rename_i hc
    have hi : (x.f1 - a).toNat < l.length := by omega
    rw [List.getD_eq_getElem?_getD, List.getElem?_eq_getElem hi] at h
    injection h with h
    subst h
    exact hs _ (List.getElem_mem hi)
  · cases h
set_option maxHeartbeats 4000000 in
set_option maxRecDepth 100000 in
theorem open1_c (may : Bool) (a : Int) (ha : may = true → 0 ≤ a ∧ a ≤ 1073741824) (l : List Ty) (hl : l.length * 80 ≤ 140737488351232) {L : Option Addr} {cL : Nat} {ok : Nat → Prop} {w0 w : World} (hok : ∀ k, ok k → k < w0.heap.size) (h0 : Below w0.heap.size w0 w) (hC : Kd.F kTy w0 ok L l.length l) (hcL : l.length ≤ cL) {gm gf gl : Nat} (hgm : w.heap[gm]? = some (.cells #[.bool may] 4 (0, 0))) (hgf : w.heap[gf]? = some (.cells #[.int .i64 a] 3 (0, 0))) (hgl : w.heap[gl]? = some (.cells #[.slice L l.length cL] 23 (0, 0))) (x : Ty) (hx : Sn x) (A3 : Option Addr) (c3 : Nat) (A4 : Option Addr) (c4 : Nat) :
    Calls Try.prog 63 #[tv x A3 c3 A4 c4, .pointer (some ⟨gm, 0, none⟩), .pointer (some ⟨gf, 0, none⟩), .pointer (some ⟨gl, 0, none⟩)] w (TOut w ok (turnOpen may a l x)) := by
  have k0 := blk_new w (.cells (tarr x A3 c3 A4 c4) 25)
  have k1 := blk_new (w.alloc (.cells (tarr x A3 c3 A4 c4) 25)) (.cells #[.int .i64 0, .int .i64 0, .string ⟨#[]⟩, .slice none 0 0, .slice none 0 0] 25)
  rw [World.size_alloc] at k1
  replace k0 := blk_alloc k0 (.cells #[.int .i64 0, .int .i64 0, .string ⟨#[]⟩, .slice none 0 0, .slice none 0 0] 25)
  have b0 := (below_alloc1 w (.cells (tarr x A3 c3 A4 c4) 25)).trans ((below_alloc1 (w.alloc (.cells (tarr x A3 c3 A4 c4) 25)) (.cells #[.int .i64 0, .int .i64 0, .string ⟨#[]⟩, .slice none 0 0, .slice none 0 0] 25)).mono (below_alloc1 w (.cells (tarr x A3 c3 A4 c4) 25)).size)
  have kM := blk_up b0 hgm
  have kF := blk_up b0 hgf
  have kL := blk_up b0 hgl
  obtain ⟨⟨p0, p1, p2, p3, p4⟩, _, lp⟩ := five k0
  obtain ⟨⟨z0, z1, z2, z3, z4⟩, ⟨s0, s1, s2, s3, s4⟩, lz⟩ := five k1
  obtain ⟨m0, _, lm⟩ := one kM
  obtain ⟨f0, _, lf⟩ := one kF
  obtain ⟨l0, _, ll⟩ := one kL
  have hrl := hx.rng.1
  have hrh := hx.rng.2
  have sz0 := h0.size
  have hno : ¬ (may = true ∧ x.f0 = 9 ∧ a ≤ x.f1 ∧ x.f1 - a < (l.length : Int)) → Aside0 (turnOpen may a l x = none) := fun h => ⟨turnOpen_no h⟩
  have hyes : ∀ i : Nat, (hi : i < l.length) → may = true → x.f0 = 9 → x.f1 = a + (i : Int) → Aside0 (turnOpen may a l x = some l[i]) := fun i hi hm h9 h1 => by subst hm; exact ⟨turnOpen_yes h9 h1 hi⟩
  generalize turnOpen may a l x = o at hno hyes ⊢
  have HNO := Aside0.mk hno
  have HYES := Aside0.mk hyes
  clear hno hyes
  cases may with
  | false =>
    have HN := HNO.out (fun h => by cases h.1)
    clear HNO HYES ha
    go_enter Try.func63, Try.ntmps63
    go_wp2
    refine bodyPost_ret (results_ct rfl _ _ _ 25 _ (0, 0) _ rfl k1 Try.underlying25 rfl (by kernel_rfl)) rfl ?_
    exact TOut.no b0 HN.out
  | true =>
    obtain ⟨ha0, ha1⟩ := ha rfl
    clear ha
    by_cases h9 : x.f0 = 9
    · have c9 : decide (x.f0 = 9) = true := decide_eq_true h9
      have c9' : (x.f0 == 9) = true := by simpa using h9
      have c9'' : (x.f0 != 9) = false := by simp [h9]
      have H9 := Aside0.mk h9
      clear h9
      by_cases hlo : x.f1 < a
      · have cl : decide (x.f1 < a) = true := decide_eq_true hlo
        have HN := HNO.out (fun h => by omega)
        clear HNO HYES
        go_enter Try.func63, Try.ntmps63
        go_wp2
        refine bodyPost_ret (results_ct rfl _ _ _ 25 _ (0, 0) _ rfl k1 Try.underlying25 rfl (by kernel_rfl)) rfl ?_
        exact TOut.no b0 HN.out
      · have cl : decide (x.f1 < a) = false := decide_eq_false hlo
        have q0 : 0 ≤ x.f1 - a := by omega
        have q1 : x.f1 - a ≤ 9223372036854775807 := by omega
        by_cases hge : (l.length : Int) ≤ x.f1 - a
        · have cg : decide ((l.length : Int) ≤ x.f1 - a) = true := decide_eq_true hge
          have HN := HNO.out (fun h => by omega)
          clear HNO HYES
          go_enter Try.func63, Try.ntmps63
          go_wp2
          refine bodyPost_ret (results_ct rfl _ _ _ 25 _ (0, 0) _ rfl k1 Try.underlying25 rfl (by kernel_rfl)) rfl ?_
          exact TOut.no b0 HN.out
        · have cg : decide ((l.length : Int) ≤ x.f1 - a) = false := decide_eq_false hge
          obtain ⟨i, hi⟩ : ∃ i : Nat, x.f1 - a = (i : Int) := ⟨(x.f1 - a).toNat, by omega⟩
          have hil : i < l.length := by omega
          have HN := HYES.out i hil rfl H9.out (by omega)
          obtain ⟨ad, X3, e3, X4, e4, hA, fx, x1, x2, x3, x4, x5⟩ := elt hC i hil
          subst hA
          have bb := h0.trans (b0.mono h0.size)
          replace x1 := cell_up bb x1
          replace x2 := cell_up bb x2
          replace x3 := cell_up bb x3
          replace x4 := cell_up bb x4
          replace x5 := cell_up bb x5
          have i0 : (0 : Int) ≤ (i : Int) := by omega
          have i1 : (i : Int) < (l.length : Int) := by omega
          clear HNO HYES H9 q0 q1
          go_enter Try.func63, Try.ntmps63
          go_wp2
          have kN := blk_new (w.alloc (.cells (tarr x A3 c3 A4 c4) 25)) (.cells (tarr l[i] X3 e3 X4 e4) 25)
          rw [World.size_alloc] at kN
          have bN := chain (below_alloc1 w (.cells (tarr x A3 c3 A4 c4) 25)) (below_alloc1 (w.alloc (.cells (tarr x A3 c3 A4 c4) 25)) (.cells (tarr l[i] X3 e3 X4 e4) 25))
          refine bodyPost_ret (results_ct rfl _ _ _ 25 _ (0, 0) _ rfl kN Try.underlying25 rfl (by kernel_rfl)) rfl ?_
          exact TOut.yes bN HN.out (fx.below (h0.trans (bN.mono h0.size)))
    · have c9 : decide (x.f0 = 9) = false := decide_eq_false h9
      have c9' : (x.f0 == 9) = false := by simpa using h9
      have c9'' : (x.f0 != 9) = true := by simpa using h9
      have HN := HNO.out (fun h => h9 h.2.1)
      clear HNO HYES
      go_enter Try.func63, Try.ntmps63
      go_wp2
      refine bodyPost_ret (results_ct rfl _ _ _ 25 _ (0, 0) _ rfl k1 Try.underlying25 rfl (by kernel_rfl)) rfl ?_
      exact TOut.no b0 HN.out
/-- May seals from a number on be opened? -/
def mayB (a : Int) : Bool := decide (0 ≤ a) && decide (a ≤ 1073741824)
theorem mayB_iff {a : Int} (h : mayB a = true) : 0 ≤ a ∧ a ≤ 1073741824 := by simpa [mayB] using h
def openO (a : Int) (l : List Ty) (t : Ty) : Option Ty := doneO (turnOpen (mayB a) a l) t
theorem fiveb (w : World) (c1 c2 c3 c4 c5 : Array Value) (t1 t2 t3 t4 t5 : TypeId) : let W := ((((w.alloc (.cells c1 t1)).alloc (.cells c2 t2)).alloc (.cells c3 t3)).alloc (.cells c4 t4)).alloc (.cells c5 t5)
    (W.heap[w.heap.size]? = some (.cells c1 t1 (0, 0)) ∧ W.heap[w.heap.size + 1]? = some (.cells c2 t2 (0, 0)) ∧ W.heap[w.heap.size + 1 + 1]? = some (.cells c3 t3 (0, 0)) ∧ W.heap[w.heap.size + 1 + 1 + 1]? = some (.cells c4 t4 (0, 0)) ∧ W.heap[w.heap.size + 1 + 1 + 1 + 1]? = some (.cells c5 t5 (0, 0))) ∧ Below w.heap.size w W ∧ W.heap.size = w.heap.size + 1 + 1 + 1 + 1 + 1 := by
  have k1 := blk_new (w.alloc (.cells c1 t1)) (.cells c2 t2)
  have k2 := blk_new ((w.alloc (.cells c1 t1)).alloc (.cells c2 t2)) (.cells c3 t3)
  have k3 := blk_new (((w.alloc (.cells c1 t1)).alloc (.cells c2 t2)).alloc (.cells c3 t3)) (.cells c4 t4)
  have k4 := blk_new ((((w.alloc (.cells c1 t1)).alloc (.cells c2 t2)).alloc (.cells c3 t3)).alloc (.cells c4 t4)) (.cells c5 t5)
  simp only [World.size_alloc] at k1 k2 k3 k4
  exact ⟨⟨blk_alloc (blk_alloc (blk_alloc (blk_alloc (blk_new w _) _) _) _) _, blk_alloc (blk_alloc (blk_alloc k1 _) _) _, blk_alloc (blk_alloc k2 _) _, blk_alloc k3 _, k4⟩, chain (chain (chain (chain (below_alloc1 _ _) (below_alloc1 _ _)) (below_alloc1 _ _)) (below_alloc1 _ _)) (below_alloc1 _ _), by simp only [World.size_alloc]⟩
theorem fourb (w : World) (c1 c2 c3 c4 : Array Value) (t1 t2 t3 t4 : TypeId) : let W := (((w.alloc (.cells c1 t1)).alloc (.cells c2 t2)).alloc (.cells c3 t3)).alloc (.cells c4 t4)
    (W.heap[w.heap.size]? = some (.cells c1 t1 (0, 0)) ∧ W.heap[w.heap.size + 1]? = some (.cells c2 t2 (0, 0)) ∧ W.heap[w.heap.size + 1 + 1]? = some (.cells c3 t3 (0, 0)) ∧ W.heap[w.heap.size + 1 + 1 + 1]? = some (.cells c4 t4 (0, 0))) ∧ Below w.heap.size w W ∧ W.heap.size = w.heap.size + 1 + 1 + 1 + 1 := by
  have k1 := blk_new (w.alloc (.cells c1 t1)) (.cells c2 t2)
  have k2 := blk_new ((w.alloc (.cells c1 t1)).alloc (.cells c2 t2)) (.cells c3 t3)
  have k3 := blk_new (((w.alloc (.cells c1 t1)).alloc (.cells c2 t2)).alloc (.cells c3 t3)) (.cells c4 t4)
  simp only [World.size_alloc] at k1 k2 k3
  exact ⟨⟨blk_alloc (blk_alloc (blk_alloc (blk_new w _) _) _) _, blk_alloc (blk_alloc k1 _) _, blk_alloc k2 _, k3⟩, chain (chain (chain (below_alloc1 _ _) (below_alloc1 _ _)) (below_alloc1 _ _)) (below_alloc1 _ _), by simp only [World.size_alloc]⟩
set_option maxHeartbeats 4000000 in
set_option maxRecDepth 100000 in
theorem open_c (a : Int) (l : List Ty) (hl : l.length * 80 ≤ 140737488351232) (hs : ∀ y, y ∈ l → Sm y) {L : Option Addr} {cL : Nat} {ok : Nat → Prop} {w : World} (hok : ∀ k, ok k → k < w.heap.size) (hC : Kd.F kTy w ok L l.length l) (hcL : l.length ≤ cL) (t : Ty) (hsn : Sn t) {A3 : Option Addr} {c3 : Nat} {A4 : Option Addr} {c4 : Nat} (ht : FT w ok t A3 c3 A4 c4) :
    Calls Try.prog 26 #[tv t A3 c3 A4 c4, .int .i64 a, .slice L l.length cL] w (TOut w (fun k => ok k ∨ w.heap.size ≤ k) (openO a l t)) := by
  show Calls _ _ _ _ (TOut w (fun k => ok k ∨ w.heap.size ≤ k) (doneO (turnOpen (mayB a) a l) t))
  obtain ⟨o, ho⟩ : ∃ o, doneO (turnOpen (mayB a) a l) t = o := ⟨_, rfl⟩
  rw [ho]
  have HO := Aside0.mk ho
  clear ho
  obtain ⟨⟨kA, kF, kL, kR⟩, b0, sz0⟩ := fourb w #[.int .i64 t.f0, .int .i64 t.f1, .string t.f2, .slice A3 t.f3.length c3, .slice A4 t.f4.length c4] #[.int .i64 a] #[.slice L l.length cL] #[.int .i64 0, .int .i64 0, .string ⟨#[]⟩, .slice none 0 0, .slice none 0 0] 25 3 23 25
  obtain ⟨⟨p0, p1, p2, p3, p4⟩, _, la⟩ := five kA
  obtain ⟨f0, _, lf⟩ := one kF
  have hm : ∃ b1 b2, decide (0 ≤ a) = b1 ∧ decide (a ≤ 1073741824) = b2 ∧ mayB a = (b1 && b2) := ⟨_, _, rfl, rfl, rfl⟩
  obtain ⟨b1, b2, e1, e2, em⟩ := hm
  have EM := Aside0.mk em
  clear em
  cases b1 <;> cases b2
  · have em : mayB a = false := EM.out
    rw [em] at HO
    have ha : false = true → 0 ≤ a ∧ a ≤ 1073741824 := fun h => mayB_iff (em.trans h)
    have HA := Aside0.mk ha
    clear em EM ha
    go_enter Try.func26, Try.ntmps26
    go_wp2_with fail
    clear p0 p1 p2 p3 p4 la f0 lf e1 e2 kA kF kL kR b0 sz0
    obtain ⟨⟨kA, kF, kL, kR, kM⟩, b0, sz0⟩ := fiveb w #[.int .i64 t.f0, .int .i64 t.f1, .string t.f2, .slice A3 t.f3.length c3, .slice A4 t.f4.length c4] #[.int .i64 a] #[.slice L l.length cL] #[.int .i64 0, .int .i64 0, .string ⟨#[]⟩, .slice none 0 0, .slice none 0 0] #[.bool false] 25 3 23 25 4
    generalize ((((w.alloc (.cells #[.int .i64 t.f0, .int .i64 t.f1, .string t.f2, .slice A3 t.f3.length c3, .slice A4 t.f4.length c4] 25)).alloc (.cells #[.int .i64 a] 3)).alloc (.cells #[.slice L l.length cL] 23)).alloc (.cells #[.int .i64 0, .int .i64 0, .string ⟨#[]⟩, .slice none 0 0, .slice none 0 0] 25)).alloc (.cells #[.bool false] 4) = W at kA kF kL kR kM b0 sz0 ⊢
    refine (doneO_c (turnOpen false a l) W ok (fun k hk => Nat.lt_of_lt_of_le (hok k hk) b0.size) (w.heap.size + 1 + 1 + 1 + 1) (w.heap.size + 1) (w.heap.size + 1 + 1) (by omega) (turnOpen_sm hs) (fun w' hw' x hx X3 e3 X4 e4 => (open1_c false a HA.out l hl hok (chain b0 hw') hC hcL (blk_up hw' kM) (blk_up hw' kF) (blk_up hw' kL) x hx X3 e3 X4 e4).mono fun e w'' h => h) t hsn A3 c3 A4 c4 (ht.below b0)).mono ?_
    rw [HO.out]
    clear HO
    have zW := b0.size
    cases o with
    | none =>
      rintro e w1 ⟨hb1, rfl⟩
      have kR := blk_up hb1 kR
      have bF := chain b0 hb1
      clear kA kM kF kL b0 hb1
      obtain ⟨⟨r0, r1, r2, r3, r4⟩, ⟨s0, s1, s2, s3, s4⟩, lr⟩ := five kR
      go_wp2
      (try simp only [Exit.inBlock, Exit.then]); refine bodyPost_ret (results_ct rfl _ _ _ 25 _ (0, 0) _ rfl (stored kR _ _ _ _ _) Try.underlying25 rfl (by kernel_rfl)) rfl ?_
      exact TOut.no (below_stored bF (by omega) _ _ _ _ _) rfl
    | some u =>
      rintro e w1 ⟨hb1, C3, q3, C4, q4, rfl, hf1⟩
      have kR := blk_up hb1 kR
      have bF := chain b0 hb1
      clear kA kM kF kL b0 hb1
      obtain ⟨⟨r0, r1, r2, r3, r4⟩, ⟨s0, s1, s2, s3, s4⟩, lr⟩ := five kR
      go_wp2
      (try simp only [Exit.inBlock, Exit.then]); refine bodyPost_ret (results_ct rfl _ _ _ 25 _ (0, 0) _ rfl (stored kR _ _ _ _ _) Try.underlying25 rfl (by kernel_rfl)) rfl ?_
      exact TOut.yes (below_stored bF (by omega) _ _ _ _ _) rfl ((hf1.stored (fun k hk => by rcases hk with hk | hk; (have hB_ := hok k hk; omega); omega) _ _ _ _ _).mono (fun k hk => by rcases hk with hk | hk; exact .inl hk; exact .inr (by omega)))
  · have em : mayB a = false := EM.out
    rw [em] at HO
    have ha : false = true → 0 ≤ a ∧ a ≤ 1073741824 := fun h => mayB_iff (em.trans h)
    have HA := Aside0.mk ha
    clear em EM ha
    go_enter Try.func26, Try.ntmps26
    go_wp2_with fail
    clear p0 p1 p2 p3 p4 la f0 lf e1 e2 kA kF kL kR b0 sz0
    obtain ⟨⟨kA, kF, kL, kR, kM⟩, b0, sz0⟩ := fiveb w #[.int .i64 t.f0, .int .i64 t.f1, .string t.f2, .slice A3 t.f3.length c3, .slice A4 t.f4.length c4] #[.int .i64 a] #[.slice L l.length cL] #[.int .i64 0, .int .i64 0, .string ⟨#[]⟩, .slice none 0 0, .slice none 0 0] #[.bool false] 25 3 23 25 4
    generalize ((((w.alloc (.cells #[.int .i64 t.f0, .int .i64 t.f1, .string t.f2, .slice A3 t.f3.length c3, .slice A4 t.f4.length c4] 25)).alloc (.cells #[.int .i64 a] 3)).alloc (.cells #[.slice L l.length cL] 23)).alloc (.cells #[.int .i64 0, .int .i64 0, .string ⟨#[]⟩, .slice none 0 0, .slice none 0 0] 25)).alloc (.cells #[.bool false] 4) = W at kA kF kL kR kM b0 sz0 ⊢
    refine (doneO_c (turnOpen false a l) W ok (fun k hk => Nat.lt_of_lt_of_le (hok k hk) b0.size) (w.heap.size + 1 + 1 + 1 + 1) (w.heap.size + 1) (w.heap.size + 1 + 1) (by omega) (turnOpen_sm hs) (fun w' hw' x hx X3 e3 X4 e4 => (open1_c false a HA.out l hl hok (chain b0 hw') hC hcL (blk_up hw' kM) (blk_up hw' kF) (blk_up hw' kL) x hx X3 e3 X4 e4).mono fun e w'' h => h) t hsn A3 c3 A4 c4 (ht.below b0)).mono ?_
    rw [HO.out]
    clear HO
    have zW := b0.size
    cases o with
    | none =>
      rintro e w1 ⟨hb1, rfl⟩
      have kR := blk_up hb1 kR
      have bF := chain b0 hb1
      clear kA kM kF kL b0 hb1
      obtain ⟨⟨r0, r1, r2, r3, r4⟩, ⟨s0, s1, s2, s3, s4⟩, lr⟩ := five kR
      go_wp2
      (try simp only [Exit.inBlock, Exit.then]); refine bodyPost_ret (results_ct rfl _ _ _ 25 _ (0, 0) _ rfl (stored kR _ _ _ _ _) Try.underlying25 rfl (by kernel_rfl)) rfl ?_
      exact TOut.no (below_stored bF (by omega) _ _ _ _ _) rfl
    | some u =>
      rintro e w1 ⟨hb1, C3, q3, C4, q4, rfl, hf1⟩
      have kR := blk_up hb1 kR
      have bF := chain b0 hb1
      clear kA kM kF kL b0 hb1
      obtain ⟨⟨r0, r1, r2, r3, r4⟩, ⟨s0, s1, s2, s3, s4⟩, lr⟩ := five kR
      go_wp2
      (try simp only [Exit.inBlock, Exit.then]); refine bodyPost_ret (results_ct rfl _ _ _ 25 _ (0, 0) _ rfl (stored kR _ _ _ _ _) Try.underlying25 rfl (by kernel_rfl)) rfl ?_
      exact TOut.yes (below_stored bF (by omega) _ _ _ _ _) rfl ((hf1.stored (fun k hk => by rcases hk with hk | hk; (have hB_ := hok k hk; omega); omega) _ _ _ _ _).mono (fun k hk => by rcases hk with hk | hk; exact .inl hk; exact .inr (by omega)))
  · have em : mayB a = false := EM.out
    rw [em] at HO
    have ha : false = true → 0 ≤ a ∧ a ≤ 1073741824 := fun h => mayB_iff (em.trans h)
    have HA := Aside0.mk ha
    clear em EM ha
    go_enter Try.func26, Try.ntmps26
    go_wp2_with fail
    clear p0 p1 p2 p3 p4 la f0 lf e1 e2 kA kF kL kR b0 sz0
    obtain ⟨⟨kA, kF, kL, kR, kM⟩, b0, sz0⟩ := fiveb w #[.int .i64 t.f0, .int .i64 t.f1, .string t.f2, .slice A3 t.f3.length c3, .slice A4 t.f4.length c4] #[.int .i64 a] #[.slice L l.length cL] #[.int .i64 0, .int .i64 0, .string ⟨#[]⟩, .slice none 0 0, .slice none 0 0] #[.bool false] 25 3 23 25 4
    generalize ((((w.alloc (.cells #[.int .i64 t.f0, .int .i64 t.f1, .string t.f2, .slice A3 t.f3.length c3, .slice A4 t.f4.length c4] 25)).alloc (.cells #[.int .i64 a] 3)).alloc (.cells #[.slice L l.length cL] 23)).alloc (.cells #[.int .i64 0, .int .i64 0, .string ⟨#[]⟩, .slice none 0 0, .slice none 0 0] 25)).alloc (.cells #[.bool false] 4) = W at kA kF kL kR kM b0 sz0 ⊢
    refine (doneO_c (turnOpen false a l) W ok (fun k hk => Nat.lt_of_lt_of_le (hok k hk) b0.size) (w.heap.size + 1 + 1 + 1 + 1) (w.heap.size + 1) (w.heap.size + 1 + 1) (by omega) (turnOpen_sm hs) (fun w' hw' x hx X3 e3 X4 e4 => (open1_c false a HA.out l hl hok (chain b0 hw') hC hcL (blk_up hw' kM) (blk_up hw' kF) (blk_up hw' kL) x hx X3 e3 X4 e4).mono fun e w'' h => h) t hsn A3 c3 A4 c4 (ht.below b0)).mono ?_
    rw [HO.out]
    clear HO
    have zW := b0.size
    cases o with
    | none =>
      rintro e w1 ⟨hb1, rfl⟩
      have kR := blk_up hb1 kR
      have bF := chain b0 hb1
      clear kA kM kF kL b0 hb1
      obtain ⟨⟨r0, r1, r2, r3, r4⟩, ⟨s0, s1, s2, s3, s4⟩, lr⟩ := five kR
      go_wp2
      (try simp only [Exit.inBlock, Exit.then]); refine bodyPost_ret (results_ct rfl _ _ _ 25 _ (0, 0) _ rfl (stored kR _ _ _ _ _) Try.underlying25 rfl (by kernel_rfl)) rfl ?_
      exact TOut.no (below_stored bF (by omega) _ _ _ _ _) rfl
    | some u =>
      rintro e w1 ⟨hb1, C3, q3, C4, q4, rfl, hf1⟩
      have kR := blk_up hb1 kR
      have bF := chain b0 hb1
      clear kA kM kF kL b0 hb1
      obtain ⟨⟨r0, r1, r2, r3, r4⟩, ⟨s0, s1, s2, s3, s4⟩, lr⟩ := five kR
      go_wp2
      (try simp only [Exit.inBlock, Exit.then]); refine bodyPost_ret (results_ct rfl _ _ _ 25 _ (0, 0) _ rfl (stored kR _ _ _ _ _) Try.underlying25 rfl (by kernel_rfl)) rfl ?_
      exact TOut.yes (below_stored bF (by omega) _ _ _ _ _) rfl ((hf1.stored (fun k hk => by rcases hk with hk | hk; (have hB_ := hok k hk; omega); omega) _ _ _ _ _).mono (fun k hk => by rcases hk with hk | hk; exact .inl hk; exact .inr (by omega)))
  · have em : mayB a = true := EM.out
    rw [em] at HO
    have ha : true = true → 0 ≤ a ∧ a ≤ 1073741824 := fun h => mayB_iff (em.trans h)
    have HA := Aside0.mk ha
    clear em EM ha
    go_enter Try.func26, Try.ntmps26
    go_wp2_with fail
    clear p0 p1 p2 p3 p4 la f0 lf e1 e2 kA kF kL kR b0 sz0
    obtain ⟨⟨kA, kF, kL, kR, kM⟩, b0, sz0⟩ := fiveb w #[.int .i64 t.f0, .int .i64 t.f1, .string t.f2, .slice A3 t.f3.length c3, .slice A4 t.f4.length c4] #[.int .i64 a] #[.slice L l.length cL] #[.int .i64 0, .int .i64 0, .string ⟨#[]⟩, .slice none 0 0, .slice none 0 0] #[.bool true] 25 3 23 25 4
    generalize ((((w.alloc (.cells #[.int .i64 t.f0, .int .i64 t.f1, .string t.f2, .slice A3 t.f3.length c3, .slice A4 t.f4.length c4] 25)).alloc (.cells #[.int .i64 a] 3)).alloc (.cells #[.slice L l.length cL] 23)).alloc (.cells #[.int .i64 0, .int .i64 0, .string ⟨#[]⟩, .slice none 0 0, .slice none 0 0] 25)).alloc (.cells #[.bool true] 4) = W at kA kF kL kR kM b0 sz0 ⊢
    refine (doneO_c (turnOpen true a l) W ok (fun k hk => Nat.lt_of_lt_of_le (hok k hk) b0.size) (w.heap.size + 1 + 1 + 1 + 1) (w.heap.size + 1) (w.heap.size + 1 + 1) (by omega) (turnOpen_sm hs) (fun w' hw' x hx X3 e3 X4 e4 => (open1_c true a (fun _ => HA.out trivial) l hl hok (chain b0 hw') hC hcL (blk_up hw' kM) (blk_up hw' kF) (blk_up hw' kL) x hx X3 e3 X4 e4).mono fun e w'' h => h) t hsn A3 c3 A4 c4 (ht.below b0)).mono ?_
    rw [HO.out]
    clear HO
    have zW := b0.size
    cases o with
    | none =>
      rintro e w1 ⟨hb1, rfl⟩
      have kR := blk_up hb1 kR
      have bF := chain b0 hb1
      clear kA kM kF kL b0 hb1
      obtain ⟨⟨r0, r1, r2, r3, r4⟩, ⟨s0, s1, s2, s3, s4⟩, lr⟩ := five kR
      go_wp2
      (try simp only [Exit.inBlock, Exit.then]); refine bodyPost_ret (results_ct rfl _ _ _ 25 _ (0, 0) _ rfl (stored kR _ _ _ _ _) Try.underlying25 rfl (by kernel_rfl)) rfl ?_
      exact TOut.no (below_stored bF (by omega) _ _ _ _ _) rfl
    | some u =>
      rintro e w1 ⟨hb1, C3, q3, C4, q4, rfl, hf1⟩
      have kR := blk_up hb1 kR
      have bF := chain b0 hb1
      clear kA kM kF kL b0 hb1
      obtain ⟨⟨r0, r1, r2, r3, r4⟩, ⟨s0, s1, s2, s3, s4⟩, lr⟩ := five kR
      go_wp2
      (try simp only [Exit.inBlock, Exit.then]); refine bodyPost_ret (results_ct rfl _ _ _ 25 _ (0, 0) _ rfl (stored kR _ _ _ _ _) Try.underlying25 rfl (by kernel_rfl)) rfl ?_
      exact TOut.yes (below_stored bF (by omega) _ _ _ _ _) rfl ((hf1.stored (fun k hk => by rcases hk with hk | hk; (have hB_ := hok k hk; omega); omega) _ _ _ _ _).mono (fun k hk => by rcases hk with hk | hk; exact .inl hk; exact .inr (by omega)))
end Go.Proofs.Ytnfnhjhnfdkinaa.PSubstPuts
namespace Go.Proofs.Ytnfnhjhnfdkinaa.PSubstPuts
open Go.RowKit Go.Proofs.YtnfnhjhnfdkinaaW.Mine Go.Proofs.YtnfnhjhnfdkinaaW.PrintWords Go.Proofs.YtnfnhjhnfdkinaaW.PrintLast Go.Proofs.YtnfnhjhnfdkinaaW.PrintMore
set_option linter.unusedVariables false
set_option linter.unusedSimpArgs false
mutual
theorem over_neg (f : Ty → Option Ty) : ∀ (x : Ty) (k : Int), k < 0 → (over f x k).2 < 0
  | ⟨a0, a1, a2, a3, a4⟩, k, h => by rw [over_eq, if_pos h]; exact h
theorem overAll_neg (f : Ty → Option Ty) : ∀ (l : List Ty) (k : Int), k < 0 → (overAll f l k).2 < 0
  | [], k, h => by rw [overAll_nil]; exact h
  | a :: l, k, h => by rw [overAll_cons]; exact overAll_neg f l _ (over_neg f a k h)
end
theorem over_pos {f : Ty → Option Ty} {x : Ty} {k : Int} (h : 0 ≤ (over f x k).2) : 0 ≤ k := by
  apply Int.not_lt.1; intro hk; have := over_neg f x k hk; omega
theorem overAll_pos {f : Ty → Option Ty} {l : List Ty} {k : Int} (h : 0 ≤ (overAll f l k).2) : 0 ≤ k := by
  apply Int.not_lt.1; intro hk; have := overAll_neg f l k hk; omega
mutual
def plain (f : Ty → Option Ty) : Ty → Ty
  | ⟨a0, a1, a2, a3, a4⟩ => match f ⟨a0, a1, a2, a3, a4⟩ with
    | some u => u
    | none => ⟨a0, a1, a2, a3, plainAll f a4⟩
def plainAll (f : Ty → Option Ty) : List Ty → List Ty
  | [] => []
  | a :: l => plain f a :: plainAll f l
end
theorem plain_eq (f : Ty → Option Ty) (x : Ty) : plain f x = match f x with
    | some u => u
    | none => ⟨x.f0, x.f1, x.f2, x.f3, plainAll f x.f4⟩ := by
  cases x; simp only [plain]
theorem plainAll_cons (f : Ty → Option Ty) (a : Ty) (l : List Ty) : plainAll f (a :: l) = plain f a :: plainAll f l := by simp only [plainAll]
theorem plainAll_nil (f : Ty → Option Ty) : plainAll f [] = [] := by simp only [plainAll]
theorem plainAll_map (f : Ty → Option Ty) : ∀ l, plainAll f l = l.map (plain f)
  | [] => by rw [plainAll_nil]; rfl
  | a :: l => by rw [plainAll_cons, plainAll_map f l]; rfl
theorem nodesAll_cons (a : Ty) (l : List Ty) : nodesAll (a :: l) = nodes a + nodesAll l := by simp only [nodesAll]
theorem nodesAll_nil : nodesAll [] = 0 := by simp only [nodesAll]
theorem wrap_sub (k a b : Int) : wrap64 (wrap64 (k - a) - b) = wrap64 (k - (a + b)) := by unfold wrap64; omega
theorem wrap_sub' (k b : Int) : wrap64 (k - wrap64 b) = wrap64 (k - b) := by unfold wrap64; omega
theorem wrap_of {k : Int} (h0 : 0 ≤ k) (h1 : k ≤ 9223372036854775807) : k = wrap64 k := by unfold wrap64; omega
mutual
theorem over_tells (f : Ty → Option Ty) : ∀ (x : Ty) (k : Int), 0 ≤ (over f x k).2 → k ≤ 9223372036854775807 → over f x k = (plain f x, wrap64 (k - (nodes (plain f x) : Int)))
  | ⟨a0, a1, a2, a3, a4⟩, k, h, hk => by
    have h0 := over_pos h
    rw [over_eq, if_neg (by omega)] at h ⊢
    rw [plain_eq]
    cases hf : f ⟨a0, a1, a2, a3, a4⟩ with
    | some u =>
      simp only [hf] at h ⊢
      rw [wrap_sub']
    | none =>
      simp only [hf] at h ⊢
      have e := overAll_tells f a4 (k - 1) h (by omega)
      rw [e]
      simp only [nodes_eq]
      rw [show (k - 1 - (nodesAll (plainAll f a4) : Int)) = k - ((nodesAll (plainAll f a4) + 1 : Nat) : Int) by push_cast; omega]
theorem overAll_tells (f : Ty → Option Ty) : ∀ (l : List Ty) (k : Int), 0 ≤ (overAll f l k).2 → k ≤ 9223372036854775807 → overAll f l k = (plainAll f l, wrap64 (k - (nodesAll (plainAll f l) : Int)))
  | [], k, h, hk => by
    rw [overAll_nil] at h ⊢
    rw [plainAll_nil, nodesAll_nil]
    have := wrap_of h hk
    simp only [Int.natCast_zero, Int.sub_zero]
    rw [← this]
  | a :: l, k, h, hk => by
    rw [overAll_cons] at h ⊢
    have h1 := overAll_pos h
    have e1 := over_tells f a k h1 hk
    have e2 := overAll_tells f l _ h (over_max f a k hk)
    rw [e2, e1, plainAll_cons, nodesAll_cons]
    simp only [wrap_sub]
    rw [show ((nodes (plain f a) : Int) + (nodesAll (plainAll f l) : Int)) = ((nodes (plain f a) + nodesAll (plainAll f l) : Nat) : Int) by push_cast; rfl]
end
mutual
theorem over_fits (f : Ty → Option Ty) : ∀ (x : Ty) (k : Int), (nodes (plain f x) : Int) ≤ k → k ≤ 9223372036854775807 → over f x k = (plain f x, k - (nodes (plain f x) : Int))
  | ⟨a0, a1, a2, a3, a4⟩, k, h, hk => by
    rw [over_eq, if_neg (by omega)]
    rw [plain_eq] at h ⊢
    cases hf : f ⟨a0, a1, a2, a3, a4⟩ with
    | some u =>
      simp only [hf] at h ⊢
      rw [wrap_sub', ← wrap_of (by omega) (by omega)]
    | none =>
      simp only [hf, nodes_eq] at h ⊢
      have e := overAll_fits f a4 (k - 1) (by omega) (by omega)
      rw [e]
      simp only
      rw [show (k - 1 - (nodesAll (plainAll f a4) : Int)) = k - ((nodesAll (plainAll f a4) + 1 : Nat) : Int) by push_cast; omega]
theorem overAll_fits (f : Ty → Option Ty) : ∀ (l : List Ty) (k : Int), (nodesAll (plainAll f l) : Int) ≤ k → k ≤ 9223372036854775807 → overAll f l k = (plainAll f l, k - (nodesAll (plainAll f l) : Int))
  | [], k, h, hk => by
    rw [overAll_nil, plainAll_nil, nodesAll_nil]
    simp only [Int.natCast_zero, Int.sub_zero]
  | a :: l, k, h, hk => by
    rw [plainAll_cons, nodesAll_cons] at h
    rw [overAll_cons, plainAll_cons, nodesAll_cons]
    rw [over_fits f a k (by omega) hk]
    simp only
    rw [overAll_fits f l _ (by omega) (by omega)]
    simp only
    rw [show (k - (nodes (plain f a) : Int) - (nodesAll (plainAll f l) : Int)) = k - ((nodes (plain f a) + nodesAll (plainAll f l) : Nat) : Int) by push_cast; omega]
end
theorem done_some {f : Ty → Option Ty} {t u : Ty} (h : doneO f t = some u) : 0 ≤ (over f t 300).2 ∧ (over f t 300).1 = u ∧ u = plain f t := by
  unfold doneO at h
  split at h
  · cases h
  · rename_i hn
    have h0 : 0 ≤ (over f t 300).2 := by omega
    injection h with h
    have e := over_tells f t 300 h0 (by decide)
    exact ⟨h0, h, by rw [← h, e]⟩
/-- Where types are of a size, done tells just whether what comes has no more than 300 nodes. -/
theorem done_fits (f : Ty → Option Ty) (t : Ty) (hb : (nodes (plain f t) : Int) ≤ 9223372036854775807) : doneO f t = if nodes (plain f t) ≤ 300 then some (plain f t) else none := by
  by_cases h : nodes (plain f t) ≤ 300
  · have e := over_fits f t 300 (by omega) (by decide)
    unfold doneO
    rw [e, if_pos h]
    simp only
    rw [if_neg (by omega)]
  · rw [if_neg h]
    unfold doneO
    by_cases h0 : (over f t 300).2 < 0
    · rw [if_pos h0]
    · have e := over_tells f t 300 (by omega) (by decide)
      rw [e] at h0
      simp only at h0
      unfold wrap64 at h0
      omega
mutual
theorem over_twice (fm fn g : Ty → Option Ty) (hn : ∀ x l, fn ⟨x.f0, x.f1, x.f2, x.f3, l⟩ = fn x) (h1 : ∀ x u, fm x = some u → ∃ v, doneO fn u = some v ∧ g x = some v) (h2 : ∀ x, fm x = none → g x = fn x) :
    ∀ (t : Ty) (k1 k2 : Int), 0 ≤ (over fm t k1).2 → k1 ≤ 9223372036854775807 → 0 ≤ (over fn (over fm t k1).1 k2).2 → k2 ≤ 9223372036854775807 → over g t k2 = over fn (over fm t k1).1 k2
  | ⟨a0, a1, a2, a3, a4⟩, k1, k2, p1, q1, p2, q2 => by
    have r1 := over_pos p1
    have r2 := over_pos p2
    rw [over_eq fm, if_neg (by omega)] at p1 p2 ⊢
    cases hf : fm ⟨a0, a1, a2, a3, a4⟩ with
    | some u =>
      simp only [hf] at p1 p2 ⊢
      obtain ⟨v, hv, hg⟩ := h1 _ u hf
      rw [over_eq g, if_neg (by omega)]
      simp only [hg]
      have e := over_tells fn u k2 p2 q2
      rw [e, (done_some hv).2.2, wrap_sub']
    | none =>
      simp only [hf] at p1 p2 ⊢
      have hg := h2 _ hf
      rw [over_eq fn, if_neg (by omega)] at p2 ⊢
      rw [over_eq g, if_neg (by omega)]
      have hnn := hn ⟨a0, a1, a2, a3, a4⟩ (overAll fm a4 (k1 - 1)).1
      simp only at hnn
      rw [hnn] at p2 ⊢
      rw [hg]
      cases hfn : fn ⟨a0, a1, a2, a3, a4⟩ with
      | some u => simp only
      | none =>
        simp only [hfn] at p2 ⊢
        rw [overAll_twice fm fn g hn h1 h2 a4 (k1 - 1) (k2 - 1) p1 (by omega) p2 (by omega)]
theorem overAll_twice (fm fn g : Ty → Option Ty) (hn : ∀ x l, fn ⟨x.f0, x.f1, x.f2, x.f3, l⟩ = fn x) (h1 : ∀ x u, fm x = some u → ∃ v, doneO fn u = some v ∧ g x = some v) (h2 : ∀ x, fm x = none → g x = fn x) :
    ∀ (l : List Ty) (k1 k2 : Int), 0 ≤ (overAll fm l k1).2 → k1 ≤ 9223372036854775807 → 0 ≤ (overAll fn (overAll fm l k1).1 k2).2 → k2 ≤ 9223372036854775807 → overAll g l k2 = overAll fn (overAll fm l k1).1 k2
  | [], k1, k2, p1, q1, p2, q2 => by rw [overAll_nil, overAll_nil, overAll_nil]
  | a :: l, k1, k2, p1, q1, p2, q2 => by
    rw [overAll_cons fm] at p1 p2 ⊢
    simp only at p1 p2 ⊢
    rw [overAll_cons fn] at p2 ⊢
    simp only at p2 ⊢
    have s1 := overAll_pos p1
    have s2 := overAll_pos p2
    have e := over_twice fm fn g hn h1 h2 a k1 k2 s1 q1 s2 q2
    rw [overAll_cons g, e]
    have e2 := overAll_twice fm fn g hn h1 h2 l _ _ p1 (over_max fm a k1 q1) p2 (over_max fn _ k2 q2)
    rw [e2]
end
theorem done_twice {fm fn g : Ty → Option Ty} (hn : ∀ x l, fn ⟨x.f0, x.f1, x.f2, x.f3, l⟩ = fn x) (h1 : ∀ x u, fm x = some u → ∃ v, doneO fn u = some v ∧ g x = some v) (h2 : ∀ x, fm x = none → g x = fn x) {t a b : Ty} (ha : doneO fm t = some a) (hb : doneO fn a = some b) : doneO g t = some b := by
  obtain ⟨p1, e1, _⟩ := done_some ha
  obtain ⟨p2, e2, _⟩ := done_some hb
  subst e1
  have e := over_twice fm fn g hn h1 h2 t 300 300 p1 (by decide) p2 (by decide)
  unfold doneO
  rw [e, if_neg (by omega), e2]
theorem turnPut_args (m : List Bi) (x : Ty) (l : List Ty) : turnPut m ⟨x.f0, x.f1, x.f2, x.f3, l⟩ = turnPut m x := rfl
/-- What the two lists do, both in one. -/
theorem bix_eq {m : List Bi} {s : ByteArray} : bix m s = if m.findIdx (fun b => eqText b.f0 s) < m.length then ((m.findIdx (fun b => eqText b.f0 s) : Nat) : Int) else -1 := rfl
theorem findIdx_names : ∀ (m : List Bi) (p : List Bi) (s : ByteArray), m.map (·.f0) = p.map (·.f0) → m.findIdx (fun b => eqText b.f0 s) = p.findIdx (fun b => eqText b.f0 s)
  | [], [], _, _ => rfl
  | [], _ :: _, _, h => by simp at h
  | _ :: _, [], _, h => by simp at h
  | a :: m, b :: p, s, h => by
    simp only [List.map_cons, List.cons.injEq] at h
    rw [List.findIdx_cons, List.findIdx_cons, h.1, findIdx_names m p s h.2]
theorem turnPut_both (m n p : List Bi) (hn : m.map (·.f0) = p.map (·.f0)) (x : Ty) :
    turnPut (p ++ n) x = match turnPut m x with
      | some _ => some (p.getD (bix m x.f2).toNat zB).f1
      | none => turnPut n x := by
  have hl : m.length = p.length := by have := congrArg List.length hn; simpa using this
  unfold turnPut
  by_cases h6 : x.f0 = 6
  · have e := findIdx_names m p x.f2 hn
    by_cases hi : m.findIdx (fun b => eqText b.f0 x.f2) < m.length
    · have b1 : bix m x.f2 = ((m.findIdx (fun b => eqText b.f0 x.f2) : Nat) : Int) := by rw [bix_eq, if_pos hi]
      have b2 : bix (p ++ n) x.f2 = ((m.findIdx (fun b => eqText b.f0 x.f2) : Nat) : Int) := by
        rw [bix_eq, List.findIdx_append, ← e, ← hl, if_pos hi, if_pos (by rw [List.length_append]; omega)]
      rw [if_pos (⟨h6, by rw [b2]; omega⟩ : x.f0 = 6 ∧ 0 ≤ bix (p ++ n) x.f2), if_pos (⟨h6, by rw [b1]; omega⟩ : x.f0 = 6 ∧ 0 ≤ bix m x.f2), b1, b2]
      simp only [Int.toNat_natCast]
      rw [List.getD_eq_getElem?_getD, List.getD_eq_getElem?_getD, List.getElem?_append_left (by omega)]
    · have b1 : bix m x.f2 = -1 := by rw [bix_eq, if_neg hi]
      rw [if_neg (by rw [b1]; omega : ¬ (x.f0 = 6 ∧ 0 ≤ bix m x.f2))]
      simp only
      by_cases hj : n.findIdx (fun b => eqText b.f0 x.f2) < n.length
      · have b2 : bix (p ++ n) x.f2 = ((p.length + n.findIdx (fun b => eqText b.f0 x.f2) : Nat) : Int) := by
          rw [bix_eq, List.findIdx_append, ← e, ← hl, if_neg hi, if_pos (by rw [List.length_append]; omega)]; congr 1; omega
        have b3 : bix n x.f2 = ((n.findIdx (fun b => eqText b.f0 x.f2) : Nat) : Int) := by rw [bix_eq, if_pos hj]
        rw [if_pos (⟨h6, by rw [b2]; omega⟩ : x.f0 = 6 ∧ 0 ≤ bix (p ++ n) x.f2), if_pos (⟨h6, by rw [b3]; omega⟩ : x.f0 = 6 ∧ 0 ≤ bix n x.f2), b2, b3]
        simp only [Int.toNat_natCast]
        rw [List.getD_eq_getElem?_getD, List.getD_eq_getElem?_getD, List.getElem?_append_right (by omega)]
        rw [Nat.add_sub_cancel_left]
      · have b2 : bix (p ++ n) x.f2 = -1 := by
          rw [bix_eq, List.findIdx_append, ← e, ← hl, if_neg hi, if_neg (by rw [List.length_append]; omega)]
        have b3 : bix n x.f2 = -1 := by rw [bix_eq, if_neg hj]
        rw [if_neg (by rw [b2]; omega : ¬ (x.f0 = 6 ∧ 0 ≤ bix (p ++ n) x.f2)), if_neg (by rw [b3]; omega : ¬ (x.f0 = 6 ∧ 0 ≤ bix n x.f2))]
  · rw [if_neg (fun h => h6 h.1), if_neg (fun h => h6 h.1), if_neg (fun h => h6 h.1)]
/-- The law of the two lists. -/
theorem put_twice {m n p : List Bi} (hn : m.map (·.f0) = p.map (·.f0)) (hp : ∀ i, (hi : i < m.length) → (hi' : i < p.length) → putO n m[i].f1 = some p[i].f1) {t a b : Ty} (ha : putO m t = some a) (hb : putO n a = some b) : putO (p ++ n) t = some b := by
  have hl : m.length = p.length := by have := congrArg List.length hn; simpa using this
  refine done_twice (fm := turnPut m) (fn := turnPut n) (turnPut_args n) (fun x u hu => ?_) (fun x hx => ?_) ha hb
  · have e := turnPut_both m n p hn x
    rw [hu] at e
    refine ⟨(p.getD (bix m x.f2).toNat zB).f1, ?_, e⟩
    unfold turnPut at hu
    split at hu
    · rename_i hc
      have hlt := bix_lt m x.f2
      have hi : (bix m x.f2).toNat < m.length := by omega
      rw [List.getD_eq_getElem?_getD, List.getElem?_eq_getElem hi] at hu
      injection hu with hu
      subst hu
      rw [List.getD_eq_getElem?_getD, List.getElem?_eq_getElem (by omega)]
      exact hp _ hi (by omega)
    · cases hu
  · have e := turnPut_both m n p hn x
    rw [hx] at e
    exact e
end Go.Proofs.Ytnfnhjhnfdkinaa.PSubstPuts
namespace Go.Proofs.Ytnfnhjhnfdkinaa.PSubstPuts
open Go.RowKit Go.Proofs.YtnfnhjhnfdkinaaW.Mine Go.Proofs.YtnfnhjhnfdkinaaW.PrintWords Go.Proofs.YtnfnhjhnfdkinaaW.PrintLast Go.Proofs.YtnfnhjhnfdkinaaW.PrintMore
set_option linter.unusedVariables false
set_option linter.unusedSimpArgs false
/-- The first place of a text; none: -1. -/
def pix (l : List ByteArray) (s : ByteArray) : Int := if l.findIdx (fun b => eqText b s) < l.length then ((l.findIdx (fun b => eqText b s) : Nat) : Int) else -1
theorem pix_eq {m : List ByteArray} {s : ByteArray} : pix m s = if m.findIdx (fun b => eqText b s) < m.length then ((m.findIdx (fun b => eqText b s) : Nat) : Int) else -1 := rfl
theorem pix_at {m : List ByteArray} {s : ByteArray} {i : Nat} (hi : i < m.length) (h : eqText m[i] s = true) (hj : ∀ j (hj : j < m.length), j < i → eqText m[j] s = false) : pix m s = (i : Int) := by
  have e : m.findIdx (fun b => eqText b s) = i := (List.findIdx_eq hi).2 ⟨h, fun j hji => hj j (by omega) hji⟩
  unfold pix
  rw [e, if_pos hi]
theorem pix_none {m : List ByteArray} {s : ByteArray} (h : ∀ j (hj : j < m.length), eqText m[j] s = false) : pix m s = -1 := by
  have e : m.findIdx (fun b => eqText b s) = m.length := List.findIdx_eq_length.2 (fun x hx => by obtain ⟨j, hj, rfl⟩ := List.mem_iff_getElem.1 hx; exact h j hj)
  unfold pix
  rw [e, if_neg (Nat.lt_irrefl _)]
mutual
def sealed (l : List ByteArray) (b : Int) : Ty → Ty
  | ⟨a0, a1, a2, a3, a4⟩ => if a0 = 6 ∧ 0 ≤ pix l a2 then ⟨9, wrap64 (b + pix l a2), ⟨#[]⟩, [], []⟩ else ⟨a0, a1, a2, a3, sealedAll l b a4⟩
def sealedAll (l : List ByteArray) (b : Int) : List Ty → List Ty
  | [] => []
  | a :: m => sealed l b a :: sealedAll l b m
end
theorem sealed_eq (l : List ByteArray) (b : Int) (x : Ty) : sealed l b x = if x.f0 = 6 ∧ 0 ≤ pix l x.f2 then ⟨9, wrap64 (b + pix l x.f2), ⟨#[]⟩, [], []⟩ else ⟨x.f0, x.f1, x.f2, x.f3, sealedAll l b x.f4⟩ := by
  cases x; simp only [sealed]
theorem sealedAll_cons (l : List ByteArray) (b : Int) (a : Ty) (m : List Ty) : sealedAll l b (a :: m) = sealed l b a :: sealedAll l b m := by simp only [sealedAll]
theorem sealedAll_nil (l : List ByteArray) (b : Int) : sealedAll l b [] = [] := by simp only [sealedAll]
theorem sealedAll_map (l : List ByteArray) (b : Int) : ∀ m, sealedAll l b m = m.map (sealed l b)
  | [] => by rw [sealedAll_nil]; rfl
  | a :: m => by rw [sealedAll_cons, sealedAll_map l b m]; rfl
/-- May names be sealed from a number on? -/
def sealable (l : List ByteArray) (b : Int) : Bool := decide (0 ≤ b ∧ b ≤ 1073741824 - (l.length : Int))
theorem sealable_yes {l : List ByteArray} {b : Int} (h0 : ¬ b < 0) (h1 : ¬ b > 1073741824 - (l.length : Int)) : sealable l b = true := decide_eq_true ⟨by omega, by omega⟩
theorem sealable_no {l : List ByteArray} {b : Int} (h : b < 0 ∨ b > 1073741824 - (l.length : Int)) : sealable l b = false := decide_eq_false (by omega)
def sealO (l : List ByteArray) (b : Int) (t : Ty) : Ty := if sealable l b = true then sealed l b t else t
mutual
def has (k : Int) : Ty → Bool
  | ⟨a0, _, _, _, a4⟩ => if a0 = k then true else hasAny k a4
def hasAny (k : Int) : List Ty → Bool
  | [] => false
  | a :: l => if has k a = true then true else hasAny k l
end
theorem has_eq (k : Int) (x : Ty) : has k x = if x.f0 = k then true else hasAny k x.f4 := by cases x; simp only [has]
theorem hasAny_cons (k : Int) (a : Ty) (l : List Ty) : hasAny k (a :: l) = if has k a = true then true else hasAny k l := by simp only [hasAny]
theorem hasAny_nil (k : Int) : hasAny k [] = false := by simp only [hasAny]
theorem pix_names : ∀ (m : List Bi) (s : ByteArray), pix (m.map (·.f0)) s = bix m s := by
  intro m s
  rw [pix_eq, bix_eq, List.findIdx_map, List.length_map]
  rfl
theorem turnOpen_sealed (m : List Bi) (b : Int) (hb0 : 0 ≤ b) (hb1 : b ≤ 65535) (hm : m.length ≤ 20) (x : Ty) (h9 : x.f0 ≠ 9) :
    turnOpen (mayB b) b (m.map (·.f1)) (sealed (m.map (·.f0)) b x) = turnPut m x := by
  have hmay : mayB b = true := by simp [mayB, hb0]; omega
  have hlt := bix_lt m x.f2
  rw [hmay, sealed_eq, pix_names]
  by_cases hc : x.f0 = 6 ∧ 0 ≤ bix m x.f2
  · rw [if_pos hc]
    have e : turnPut m x = some (m.getD (bix m x.f2).toNat zB).f1 := if_pos hc
    rw [e]
    have hw : wrap64 (b + bix m x.f2) = b + bix m x.f2 := by unfold wrap64; omega
    have hi : (bix m x.f2).toNat < m.length := by omega
    rw [turnOpen_yes (i := (bix m x.f2).toNat) rfl (by show wrap64 (b + bix m x.f2) = _; rw [hw]; omega) (by rw [List.length_map]; exact hi)]
    rw [List.getElem_map, List.getD_eq_getElem?_getD, List.getElem?_eq_getElem hi]
    rfl
  · rw [if_neg hc]
    have e : turnPut m x = none := if_neg hc
    rw [e]
    exact turnOpen_no (fun h => h9 h.2.1)
mutual
theorem over_opens (m : List Bi) (b : Int) (hb0 : 0 ≤ b) (hb1 : b ≤ 65535) (hm : m.length ≤ 20) :
    ∀ (t : Ty) (k : Int), has 9 t = false → over (turnOpen (mayB b) b (m.map (·.f1))) (sealed (m.map (·.f0)) b t) k = over (turnPut m) t k
  | ⟨a0, a1, a2, a3, a4⟩, k, h => by
    rw [has_eq] at h
    have h9 : a0 ≠ 9 := fun e => by rw [if_pos e] at h; cases h
    rw [if_neg h9] at h
    have e := turnOpen_sealed m b hb0 hb1 hm ⟨a0, a1, a2, a3, a4⟩ h9
    rw [over_eq, over_eq (turnPut m), e]
    cases hp : turnPut m ⟨a0, a1, a2, a3, a4⟩ with
    | some u => rfl
    | none =>
      have hc : ¬ (a0 = 6 ∧ 0 ≤ pix (m.map (·.f0)) a2) := by
        intro hc
        rw [pix_names] at hc
        unfold turnPut at hp
        rw [if_pos hc] at hp; cases hp
      rw [sealed_eq, if_neg hc]
      simp only
      rw [overAll_opens m b hb0 hb1 hm a4 (k - 1) h]
theorem overAll_opens (m : List Bi) (b : Int) (hb0 : 0 ≤ b) (hb1 : b ≤ 65535) (hm : m.length ≤ 20) :
    ∀ (l : List Ty) (k : Int), hasAny 9 l = false → overAll (turnOpen (mayB b) b (m.map (·.f1))) (sealedAll (m.map (·.f0)) b l) k = overAll (turnPut m) l k
  | [], k, h => by rw [sealedAll_nil, overAll_nil, overAll_nil]
  | a :: l, k, h => by
    rw [hasAny_cons] at h
    have h1 : has 9 a = false := by
      cases e : has 9 a with
      | false => rfl
      | true => rw [e, if_pos rfl] at h; cases h
    rw [h1, if_neg (by decide)] at h
    rw [sealedAll_cons, overAll_cons, overAll_cons, over_opens m b hb0 hb1 hm a k h1, overAll_opens m b hb0 hb1 hm l _ h]
end
theorem open_seal (m : List Bi) (b : Int) (hb0 : 0 ≤ b) (hb1 : b ≤ 65535) (hm : m.length ≤ 20) (t : Ty) (h : has 9 t = false) :
    openO b (m.map (·.f1)) (sealO (m.map (·.f0)) b t) = putO m t := by
  unfold sealO
  rw [if_pos (sealable_yes (by omega) (by rw [List.length_map]; omega))]
  unfold openO putO doneO
  rw [over_opens m b hb0 hb1 hm t 300 h]
end Go.Proofs.Ytnfnhjhnfdkinaa.PSubstPuts

/-
  SitesStay: texts of this claim, put together by a program of this session. No conditions beyond what each lemma says.
-/
import Derived.Test.YtlenfmnkbepoiaazSitesStay10
import Derived.Deep.RegionHeld3
import Derived.Deep.MidRow
import Derived.Deep.LoopGhost
import Derived.Handy
import Derived.Laws.ResultCell
namespace Go.Proofs.Ytlenfmnkbepoiaa.PSitesTell
open Go.RowKit Go.Proofs.YtlenfmnkbepoiaaW.Mine Go.Proofs.YtlenfmnkbepoiaaW.PrintWords Go.Proofs.YtlenfmnkbepoiaaW.PrintLast Go.Proofs.YtlenfmnkbepoiaaW.PrintMore
set_option linter.unusedVariables false
set_option linter.unusedSimpArgs false
abbrev Ty := S26
abbrev kTy := k26
/-- A type as a value. -/
abbrev tv (x : Ty) (A3 : Option Addr) (c3 : Nat) (A4 : Option Addr) (c4 : Nat) : Value := .agg #[.int .i64 x.f0, .int .i64 x.f1, .string x.f2, .slice A3 x.f3.length c3, .slice A4 x.f4.length c4]
abbrev tcells (x : Ty) (A3 : Option Addr) (c3 : Nat) (A4 : Option Addr) (c4 : Nat) : List Value := [.int .i64 x.f0, .int .i64 x.f1, .string x.f2, .slice A3 x.f3.length c3, .slice A4 x.f4.length c4]
/-- What it leads to is read so, in the blocks of ok. -/
def FT (w : World) (ok : Nat → Prop) (x : Ty) (A3 : Option Addr) (c3 : Nat) (A4 : Option Addr) (c4 : Nat) : Prop := x.f3.length ≤ c3 ∧ Kd.F Kd.string w ok A3 x.f3.length x.f3 ∧ x.f4.length ≤ c4 ∧ Kd.F kTy w ok A4 x.f4.length x.f4
section
variable {w w1 : World} {ok ok' : Nat → Prop} {x : Ty} {A3 A4 : Option Addr} {c3 c4 g : Nat}
theorem FT.below (h : FT w ok x A3 c3 A4 c4) (hb : Below w.heap.size w w1) : FT w1 ok x A3 c3 A4 c4 := ⟨h.1, Kd.F_below h.2.1 hb, h.2.2.1, Kd.F_below h.2.2.2 hb⟩
theorem FT.mono (h : FT w ok x A3 c3 A4 c4) (hk : ∀ k, ok k → ok' k) : FT w ok' x A3 c3 A4 c4 := ⟨h.1, Kd.F_mono h.2.1 hk, h.2.2.1, Kd.F_mono h.2.2.2 hk⟩
theorem FT.bound (h : FT w ok x A3 c3 A4 c4) : FT w (fun k => ok k ∧ k < w.heap.size) x A3 c3 A4 c4 := ⟨h.1, Kd.F_bound h.2.1, h.2.2.1, Kd.F_bound h.2.2.2⟩
theorem FT.far (h : FT w ok x A3 c3 A4 c4) {p : Addr} (hk : ∀ k, ok k → k ≠ p.block) (u : Value) : FT (w.setCell p u) ok x A3 c3 A4 c4 := ⟨h.1, Kd.F_far h.2.1 hk u, h.2.2.1, Kd.F_far h.2.2.2 hk u⟩
theorem FT.fk (h : FT w ok x A3 c3 A4 c4) : Kd.FK kTy w ok x (tcells x A3 c3 A4 c4) := k26_mkF w ok x h.1 h.2.1 h.2.2.1 h.2.2.2
theorem FT.of_fk {cs : List Value} (h : Kd.FK kTy w ok x cs) : ∃ A3 c3 A4 c4, cs = tcells x A3 c3 A4 c4 ∧ FT w ok x A3 c3 A4 c4 := by
  obtain ⟨A3, c3, A4, c4, e, h3, h3', h4, h4'⟩ := k26_openF h
  exact ⟨A3, c3, A4, c4, e, h3, h3', h4, h4'⟩
theorem heapTy : Kd.Heap kTy := Kd.heap_fix (fun _ hd => Kd.heap_iso _ (Kd.heap_pair (Kd.heap_int .i64) (Kd.heap_pair (Kd.heap_int .i64) (Kd.heap_pair Kd.heap_string (Kd.heap_pair (Kd.heap_slice _ Kd.heap_string) (Kd.heap_slice _ hd))))))
/-- An argument's reading, at the door. -/
theorem FT.start (h3 : x.f3.length ≤ c3) (g3 : Kd.string.C w A3 x.f3.length x.f3) (h4 : x.f4.length ≤ c4) (g4 : kTy.C w A4 x.f4.length x.f4) : FT w (fun k => k < w.heap.size) x A3 c3 A4 c4 :=
  ⟨h3, Kd.C_F Kd.heap_string g3, h4, Kd.C_F heapTy g4⟩
theorem FT.r3 (h : FT w ok x A3 c3 A4 c4) : Kd.string.C w A3 x.f3.length x.f3 := Kd.F_now h.2.1
theorem FT.r4 (h : FT w ok x A3 c3 A4 c4) : kTy.C w A4 x.f4.length x.f4 := Kd.F_now h.2.2.2
end
/-- As many types as there may be, at each place. -/
inductive Sm : Ty → Prop
  | mk (x : Ty) (hl : x.f4.length * 80 ≤ 140737488351232) (hs : ∀ y, y ∈ x.f4 → Sm y) : Sm x
theorem Sm.len {x : Ty} (h : Sm x) : x.f4.length * 80 ≤ 140737488351232 := by cases h; assumption
theorem Sm.all {x : Ty} (h : Sm x) : ∀ y, y ∈ x.f4 → Sm y := by cases h; assumption
/-- Five cells of a block. -/
theorem five {w : World} {g : Nat} {v0 v1 v2 v3 v4 : Value} {t : TypeId} (h : w.heap[g]? = some (.cells #[v0, v1, v2, v3, v4] t (0, 0))) :
    (w.cell? ⟨g, 0, none⟩ = some v0 ∧ w.cell? ⟨g, 1, none⟩ = some v1 ∧ w.cell? ⟨g, 2, none⟩ = some v2 ∧ w.cell? ⟨g, 3, none⟩ = some v3 ∧ w.cell? ⟨g, 4, none⟩ = some v4) ∧ (w.frozen? ⟨g, 0, none⟩ = false ∧ w.frozen? ⟨g, 1, none⟩ = false ∧ w.frozen? ⟨g, 2, none⟩ = false ∧ w.frozen? ⟨g, 3, none⟩ = false ∧ w.frozen? ⟨g, 4, none⟩ = false) ∧ g < w.heap.size :=
  ⟨⟨(blk_cell h 0).trans rfl, (blk_cell h 1).trans rfl, (blk_cell h 2).trans rfl, (blk_cell h 3).trans rfl, (blk_cell h 4).trans rfl⟩, ⟨blk_frozen h 0, blk_frozen h 1, blk_frozen h 2, blk_frozen h 3, blk_frozen h 4⟩, (Array.getElem?_eq_some_iff.1 h).1⟩
theorem chain {w a b : World} (h : Below w.heap.size w a) (k : Below a.heap.size a b) : Below w.heap.size w b := h.trans (k.mono h.size)
theorem below_alloc1 (a : World) (o : Obj) : Below a.heap.size a (a.alloc o) := (Below.refl _ _).alloc (Nat.le_refl _) o
/-- A whole type is stored into a box. -/
theorem stored {w : World} {g : Nat} {t : TypeId} {z0 z1 z2 z3 z4 : Value} (h : w.heap[g]? = some (.cells #[z0, z1, z2, z3, z4] t (0, 0))) (v0 v1 v2 v3 v4 : Value) :
    ((((((w.setCell ⟨g, 0, none⟩ v0).setCell ⟨g, 1, none⟩ v1).setCell ⟨g, 2, none⟩ v2).setCell ⟨g, 3, none⟩ v3).setCell ⟨g, 4, none⟩ v4)).heap[g]? = some (.cells #[v0, v1, v2, v3, v4] t (0, 0)) := blk_set (blk_set (blk_set (blk_set (blk_set h 0 v0) 1 v1) 2 v2) 3 v3) 4 v4
theorem below_stored {w0 w : World} {g : Nat} (h : Below w0.heap.size w0 w) (hg : w0.heap.size ≤ g) (v0 v1 v2 v3 v4 : Value) : Below w0.heap.size w0 (((((w.setCell ⟨g, 0, none⟩ v0).setCell ⟨g, 1, none⟩ v1).setCell ⟨g, 2, none⟩ v2).setCell ⟨g, 3, none⟩ v3).setCell ⟨g, 4, none⟩ v4) :=
  below_set (below_set (below_set (below_set (below_set h hg) hg) hg) hg) hg
theorem FT.stored {w : World} {ok : Nat → Prop} {x : Ty} {A3 A4 : Option Addr} {c3 c4 g : Nat} (h : FT w ok x A3 c3 A4 c4) (hk : ∀ k, ok k → k ≠ g) (v0 v1 v2 v3 v4 : Value) : FT (((((w.setCell ⟨g, 0, none⟩ v0).setCell ⟨g, 1, none⟩ v1).setCell ⟨g, 2, none⟩ v2).setCell ⟨g, 3, none⟩ v3).setCell ⟨g, 4, none⟩ v4) ok x A3 c3 A4 c4 :=
  ((((h.far (p := ⟨g, 0, none⟩) hk v0).far (p := ⟨g, 1, none⟩) hk v1).far (p := ⟨g, 2, none⟩) hk v2).far (p := ⟨g, 3, none⟩) hk v3).far (p := ⟨g, 4, none⟩) hk v4
/-- An element of a list of types. -/
theorem elt {w : World} {ok : Nat → Prop} {A : Option Addr} {l : List Ty} (h : Kd.F kTy w ok A l.length l) (i : Nat) (hi : i < l.length) : ∃ ad X3 e3 X4 e4, A = some ad ∧ FT w ok l[i] X3 e3 X4 e4 ∧
    w.cell? (ad.add (i * 5)) = some (.int .i64 l[i].f0) ∧ w.cell? ⟨(ad.add (i * 5)).block, (ad.add (i * 5)).off + 1, none⟩ = some (.int .i64 l[i].f1) ∧ w.cell? ⟨(ad.add (i * 5)).block, (ad.add (i * 5)).off + 2, none⟩ = some (.string l[i].f2) ∧
    w.cell? ⟨(ad.add (i * 5)).block, (ad.add (i * 5)).off + 3, none⟩ = some (.slice X3 l[i].f3.length e3) ∧ w.cell? ⟨(ad.add (i * 5)).block, (ad.add (i * 5)).off + 4, none⟩ = some (.slice X4 l[i].f4.length e4) := by
  obtain ⟨ad, c, e, _, hfk, hc0, _⟩ := Kd.F_get h z26 i (by omega) (by omega)
  rw [getD_at z26 l i hi] at hfk
  obtain ⟨X3, e3, X4, e4, rfl, hft⟩ := FT.of_fk hfk
  have hc : ∀ j u, (tcells l[i] X3 e3 X4 e4)[j]? = some u → w.cell? (ad.add (i * 5 + j)) = some u := hc0
  exact ⟨ad, X3, e3, X4, e4, e, hft, hc 0 _ rfl, by rw [← add_field _ _ 1 (by omega)]; exact hc 1 _ rfl, by rw [← add_field _ _ 2 (by omega)]; exact hc 2 _ rfl, by rw [← add_field _ _ 3 (by omega)]; exact hc 3 _ rfl, by rw [← add_field _ _ 4 (by omega)]; exact hc 4 _ rfl⟩
theorem cell_up {w w' : World} {p : Addr} {v : Value} (hb : Below w.heap.size w w') (h : w.cell? p = some v) : w'.cell? p = some v := (hb.cell (World.block_lt_of_cell? w _ h)).trans h
theorem and_of {A B : Prop} (f : A → B) (a : A) : A ∧ B := ⟨a, f a⟩
theorem below_call' {X u v : World} (h : Below X.heap.size X u) (hb : Below u.heap.size u v) : Below X.heap.size X v := chain h hb
/-- Whatever lay ahead is as it was, but the blocks of S. -/
structure Kq (S : Nat → Prop) (w w' : World) : Prop where
  os : w'.os = w.os
  tape : w'.tape = w.tape
  output : w'.output = w.output
  size : w.heap.size ≤ w'.heap.size
  block : ∀ i, i < w.heap.size → ¬ S i → w'.heap[i]? = w.heap[i]?
section
variable {S S' : Nat → Prop} {w a b : World}
theorem Kq.refl (S : Nat → Prop) (w : World) : Kq S w w := ⟨rfl, rfl, rfl, Nat.le_refl _, fun _ _ _ => rfl⟩
theorem Kq.of_below (h : Below w.heap.size w a) : Kq S w a := ⟨h.os, h.tape, h.output, h.size, fun i hi _ => h.block i hi⟩
theorem Kq.trans (h : Kq S w a) (k : Kq S a b) : Kq S w b := ⟨k.os.trans h.os, k.tape.trans h.tape, k.output.trans h.output, Nat.le_trans h.size k.size, fun i hi hs => (k.block i (Nat.lt_of_lt_of_le hi h.size) hs).trans (h.block i hi hs)⟩
theorem Kq.mono (h : Kq S w a) (hs : ∀ k, S k → S' k) : Kq S' w a := ⟨h.os, h.tape, h.output, h.size, fun i hi hn => h.block i hi (fun hk => hn (hs i hk))⟩
/-- Blocks that are new may be written too. -/
theorem Kq.less (h : Kq S w a) (hs : ∀ k, k < w.heap.size → S k → S' k) : Kq S' w a := ⟨h.os, h.tape, h.output, h.size, fun i hi hn => h.block i hi (fun hk => hn (hs i hi hk))⟩
theorem Kq.set (h : Kq S w a) {p : Addr} (hp : S p.block ∨ w.heap.size ≤ p.block) (v : Value) : Kq S w (a.setCell p v) :=
  ⟨h.os, h.tape, h.output, by simpa [World.setCell] using h.size, fun i hi hs => (Below.heap_setCell a p v i (fun e => by rcases hp with hp | hp; exact hs (e ▸ hp); omega)).trans (h.block i hi hs)⟩
theorem Kq.below {B : Nat} (h : Kq S w a) (hB : B ≤ w.heap.size) (hs : ∀ k, k < B → ¬ S k) : Below B w a := ⟨h.os, h.tape, h.output, h.size, fun i hi => h.block i (Nat.lt_of_lt_of_le hi hB) (hs i hi)⟩
theorem Kq.cell (h : Kq S w a) {p : Addr} {v : Value} (hc : w.cell? p = some v) (hp : ¬ S p.block) : a.cell? p = some v := by
  have hl := World.block_lt_of_cell? w _ hc
  have hb := h.block p.block hl hp
  unfold World.cell? at hc ⊢
  rw [hb]; exact hc
theorem Kq.blk (h : Kq S w a) {g : Nat} {o : Obj} (hc : w.heap[g]? = some o) (hp : ¬ S g) : a.heap[g]? = some o := (h.block g (blk_lt hc) hp).trans hc
theorem FT.kq {ok : Nat → Prop} {x : Ty} {A3 A4 : Option Addr} {c3 c4 : Nat} (h : FT w ok x A3 c3 A4 c4) (k : Kq S w a) (hk : ∀ i, ok i → ¬ S i) : FT a ok x A3 c3 A4 c4 :=
  ⟨h.1, Kd.F_step h.2.1 (fun i ho hl => k.block i hl (hk i ho)), h.2.2.1, Kd.F_step h.2.2.2 (fun i ho hl => k.block i hl (hk i ho))⟩
end
theorem one {w : World} {g : Nat} {v : Value} {t : TypeId} (h : w.heap[g]? = some (.cells #[v] t (0, 0))) : w.cell? ⟨g, 0, none⟩ = some v ∧ w.frozen? ⟨g, 0, none⟩ = false ∧ g < w.heap.size := ⟨(blk_cell h 0).trans rfl, blk_frozen h 0, blk_lt h⟩
theorem and_of' {A B : Prop} (f : A → B) (a : A) : A ∧ B := ⟨a, f a⟩
theorem Kq.then {S S' : Nat → Prop} {w a b : World} (h : Kq S w a) (k : Kq S' a b) (hs : ∀ i, i < w.heap.size → S' i → S i) : Kq S w b := ⟨k.os.trans h.os, k.tape.trans h.tape, k.output.trans h.output, Nat.le_trans h.size k.size, fun i hi hn => (k.block i (Nat.lt_of_lt_of_le hi h.size) (fun hk => hn (hs i hi hk))).trans (h.block i hi hn)⟩
theorem Kq.set5 {S : Nat → Prop} {w a : World} {g : Nat} (h : Kq S w a) (hp : S g ∨ w.heap.size ≤ g) (v0 v1 v2 v3 v4 : Value) : Kq S w (((((a.setCell ⟨g, 0, none⟩ v0).setCell ⟨g, 1, none⟩ v1).setCell ⟨g, 2, none⟩ v2).setCell ⟨g, 3, none⟩ v3).setCell ⟨g, 4, none⟩ v4) :=
  ((((h.set (p := ⟨g, 0, none⟩) hp v0).set (p := ⟨g, 1, none⟩) hp v1).set (p := ⟨g, 2, none⟩) hp v2).set (p := ⟨g, 3, none⟩) hp v3).set (p := ⟨g, 4, none⟩) hp v4
theorem blk_set5 {w : World} {g h : Nat} {o : Obj} (k : w.heap[h]? = some o) (hn : h ≠ g) (v0 v1 v2 v3 v4 : Value) : (((((w.setCell ⟨g, 0, none⟩ v0).setCell ⟨g, 1, none⟩ v1).setCell ⟨g, 2, none⟩ v2).setCell ⟨g, 3, none⟩ v3).setCell ⟨g, 4, none⟩ v4).heap[h]? = some o :=
  (Below.heap_setCell _ ⟨g, 4, none⟩ v4 h hn).trans ((Below.heap_setCell _ ⟨g, 3, none⟩ v3 h hn).trans ((Below.heap_setCell _ ⟨g, 2, none⟩ v2 h hn).trans ((Below.heap_setCell _ ⟨g, 1, none⟩ v1 h hn).trans ((Below.heap_setCell _ ⟨g, 0, none⟩ v0 h hn).trans k))))
theorem FT.set5 {w : World} {ok : Nat → Prop} {x : Ty} {A3 A4 : Option Addr} {c3 c4 g : Nat} (h : FT w ok x A3 c3 A4 c4) (hk : ∀ k, ok k → k ≠ g) (v0 v1 v2 v3 v4 : Value) : FT (((((w.setCell ⟨g, 0, none⟩ v0).setCell ⟨g, 1, none⟩ v1).setCell ⟨g, 2, none⟩ v2).setCell ⟨g, 3, none⟩ v3).setCell ⟨g, 4, none⟩ v4) ok x A3 c3 A4 c4 :=
  ((((h.far (p := ⟨g, 0, none⟩) hk v0).far (p := ⟨g, 1, none⟩) hk v1).far (p := ⟨g, 2, none⟩) hk v2).far (p := ⟨g, 3, none⟩) hk v3).far (p := ⟨g, 4, none⟩) hk v4
end Go.Proofs.Ytlenfmnkbepoiaa.PSitesTell

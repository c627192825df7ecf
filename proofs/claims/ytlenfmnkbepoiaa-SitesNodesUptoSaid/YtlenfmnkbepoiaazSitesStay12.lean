/-
  SitesStay: texts of this claim, put together by a program of this session. No conditions beyond what each lemma says.
-/
import Derived.Test.YtlenfmnkbepoiaazSitesStay11
import Derived.RangeFuncNested
import Derived.RangeFuncBound
import Derived.RangeFuncCalls
import Derived.RangeFuncLeaves
import Derived.Shelf.Abstract
import Derived.Shelf.RegionOpen
import Derived.WalkKit
import Derived.OwnWalkIn
import Derived.TacticsInMore
import Derived.LoopNIn
import Derived.LoopIn
import Derived.Laws.CopyRow
import Derived.Laws.CopyOwn
import Derived.Test.YtlenfmnkbepoiaazSitesStay2
import Derived.Laws.MakeOwn
namespace Go.Proofs.Ytlenfmnkbepoiaa.PSitesTell
open Go.RowKit Go.Proofs.YtlenfmnkbepoiaaW.Mine Go.Proofs.YtlenfmnkbepoiaaW.PrintWords Go.Proofs.YtlenfmnkbepoiaaW.PrintLast Go.Proofs.YtlenfmnkbepoiaaW.PrintMore
set_option linter.unusedVariables false
set_option linter.unusedSimpArgs false
abbrev Ex := S31
abbrev kEx := k31
abbrev Bi := S68
abbrev kBi := k68
abbrev De := S33
theorem heapEx : Kd.Heap kEx := k31_heap
theorem heapBi : Kd.Heap kBi := k68_heap
abbrev tarr (t : Ty) (A3 : Option Addr) (c3 : Nat) (A4 : Option Addr) (c4 : Nat) : Array Value := #[.int .i64 t.f0, .int .i64 t.f1, .string t.f2, .slice A3 t.f3.length c3, .slice A4 t.f4.length c4]
abbrev ztarr : Array Value := #[.int .i64 0, .int .i64 0, .string ⟨#[]⟩, .slice none 0 0, .slice none 0 0]
def RT (w : World) (x : Ty) (A3 : Option Addr) (c3 : Nat) (A4 : Option Addr) (c4 : Nat) : Prop := x.f3.length ≤ c3 ∧ Kd.string.C w A3 x.f3.length x.f3 ∧ x.f4.length ≤ c4 ∧ kTy.C w A4 x.f4.length x.f4
/-! ### expressions -/
abbrev ev (x : Ex) (A4 : Option Addr) (c4 : Nat) (A5 : Option Addr) (c5 : Nat) (A6 : Option Addr) (c6 : Nat) : Value := .agg #[.int .i64 x.f0, .int .i64 x.f1, .string x.f2, .bool x.f3, .slice A4 x.f4.length c4, .slice A5 x.f5.length c5, .slice A6 x.f6.length c6]
abbrev ecells (x : Ex) (A4 : Option Addr) (c4 : Nat) (A5 : Option Addr) (c5 : Nat) (A6 : Option Addr) (c6 : Nat) : Array Value := #[.int .i64 x.f0, .int .i64 x.f1, .string x.f2, .bool x.f3, .slice A4 x.f4.length c4, .slice A5 x.f5.length c5, .slice A6 x.f6.length c6]
abbrev elist (x : Ex) (A4 : Option Addr) (c4 : Nat) (A5 : Option Addr) (c5 : Nat) (A6 : Option Addr) (c6 : Nat) : List Value := [.int .i64 x.f0, .int .i64 x.f1, .string x.f2, .bool x.f3, .slice A4 x.f4.length c4, .slice A5 x.f5.length c5, .slice A6 x.f6.length c6]
abbrev zecells : Array Value := #[.int .i64 0, .int .i64 0, .string ⟨#[]⟩, .bool false, .slice none 0 0, .slice none 0 0, .slice none 0 0]
def FE (w : World) (ok : Nat → Prop) (x : Ex) (A4 : Option Addr) (c4 : Nat) (A5 : Option Addr) (c5 : Nat) (A6 : Option Addr) (c6 : Nat) : Prop := x.f4.length ≤ c4 ∧ Kd.F kTy w ok A4 x.f4.length x.f4 ∧ x.f5.length ≤ c5 ∧ Kd.F Kd.string w ok A5 x.f5.length x.f5 ∧ x.f6.length ≤ c6 ∧ Kd.F kEx w ok A6 x.f6.length x.f6
def RE (w : World) (x : Ex) (A4 : Option Addr) (c4 : Nat) (A5 : Option Addr) (c5 : Nat) (A6 : Option Addr) (c6 : Nat) : Prop := x.f4.length ≤ c4 ∧ kTy.C w A4 x.f4.length x.f4 ∧ x.f5.length ≤ c5 ∧ Kd.string.C w A5 x.f5.length x.f5 ∧ x.f6.length ≤ c6 ∧ kEx.C w A6 x.f6.length x.f6
section
variable {w w1 : World} {ok ok' : Nat → Prop} {x : Ex} {t : Ty} {A3 A4 A5 A6 : Option Addr} {c3 c4 c5 c6 g : Nat} {S : Nat → Prop}
theorem RT.below (h : RT w t A3 c3 A4 c4) (hb : Below w.heap.size w w1) : RT w1 t A3 c3 A4 c4 := ⟨h.1, Kd.C_below h.2.1 hb, h.2.2.1, Kd.C_below h.2.2.2 hb⟩
theorem RT.ft (h : RT w t A3 c3 A4 c4) : FT w (fun k => k < w.heap.size) t A3 c3 A4 c4 := FT.start h.1 h.2.1 h.2.2.1 h.2.2.2
theorem FT.rt (h : FT w ok t A3 c3 A4 c4) : RT w t A3 c3 A4 c4 := ⟨h.1, h.r3, h.2.2.1, h.r4⟩
theorem FE.below (h : FE w ok x A4 c4 A5 c5 A6 c6) (hb : Below w.heap.size w w1) : FE w1 ok x A4 c4 A5 c5 A6 c6 := ⟨h.1, Kd.F_below h.2.1 hb, h.2.2.1, Kd.F_below h.2.2.2.1 hb, h.2.2.2.2.1, Kd.F_below h.2.2.2.2.2 hb⟩
theorem FE.mono (h : FE w ok x A4 c4 A5 c5 A6 c6) (hk : ∀ k, ok k → ok' k) : FE w ok' x A4 c4 A5 c5 A6 c6 := ⟨h.1, Kd.F_mono h.2.1 hk, h.2.2.1, Kd.F_mono h.2.2.2.1 hk, h.2.2.2.2.1, Kd.F_mono h.2.2.2.2.2 hk⟩
theorem FE.fk (h : FE w ok x A4 c4 A5 c5 A6 c6) : Kd.FK kEx w ok x (elist x A4 c4 A5 c5 A6 c6) := k31_mkF w ok x h.1 h.2.1 h.2.2.1 h.2.2.2.1 h.2.2.2.2.1 h.2.2.2.2.2
theorem FE.of_fk {cs : List Value} (h : Kd.FK kEx w ok x cs) : ∃ A4 c4 A5 c5 A6 c6, cs = elist x A4 c4 A5 c5 A6 c6 ∧ FE w ok x A4 c4 A5 c5 A6 c6 := by
  obtain ⟨A4, c4, A5, c5, A6, c6, e, h1, h2, h3, h4, h5, h6⟩ := k31_openF h
  exact ⟨A4, c4, A5, c5, A6, c6, e, h1, h2, h3, h4, h5, h6⟩
theorem FE.re (h : FE w ok x A4 c4 A5 c5 A6 c6) : RE w x A4 c4 A5 c5 A6 c6 := ⟨h.1, Kd.F_now h.2.1, h.2.2.1, Kd.F_now h.2.2.2.1, h.2.2.2.2.1, Kd.F_now h.2.2.2.2.2⟩
theorem RE.fe (h : RE w x A4 c4 A5 c5 A6 c6) : FE w (fun k => k < w.heap.size) x A4 c4 A5 c5 A6 c6 := ⟨h.1, Kd.C_F heapTy h.2.1, h.2.2.1, Kd.C_F Kd.heap_string h.2.2.2.1, h.2.2.2.2.1, Kd.C_F heapEx h.2.2.2.2.2⟩
theorem RE.below (h : RE w x A4 c4 A5 c5 A6 c6) (hb : Below w.heap.size w w1) : RE w1 x A4 c4 A5 c5 A6 c6 := ⟨h.1, Kd.C_below h.2.1 hb, h.2.2.1, Kd.C_below h.2.2.2.1 hb, h.2.2.2.2.1, Kd.C_below h.2.2.2.2.2 hb⟩
end
theorem seven {w : World} {g : Nat} {v0 v1 v2 v3 v4 v5 v6 : Value} {t : TypeId} (h : w.heap[g]? = some (.cells #[v0, v1, v2, v3, v4, v5, v6] t (0, 0))) :
    (w.cell? ⟨g, 0, none⟩ = some v0 ∧ w.cell? ⟨g, 1, none⟩ = some v1 ∧ w.cell? ⟨g, 2, none⟩ = some v2 ∧ w.cell? ⟨g, 3, none⟩ = some v3 ∧ w.cell? ⟨g, 4, none⟩ = some v4 ∧ w.cell? ⟨g, 5, none⟩ = some v5 ∧ w.cell? ⟨g, 6, none⟩ = some v6) ∧
    (w.frozen? ⟨g, 0, none⟩ = false ∧ w.frozen? ⟨g, 1, none⟩ = false ∧ w.frozen? ⟨g, 2, none⟩ = false ∧ w.frozen? ⟨g, 3, none⟩ = false ∧ w.frozen? ⟨g, 4, none⟩ = false ∧ w.frozen? ⟨g, 5, none⟩ = false ∧ w.frozen? ⟨g, 6, none⟩ = false) ∧ g < w.heap.size :=
  ⟨⟨(blk_cell h 0).trans rfl, (blk_cell h 1).trans rfl, (blk_cell h 2).trans rfl, (blk_cell h 3).trans rfl, (blk_cell h 4).trans rfl, (blk_cell h 5).trans rfl, (blk_cell h 6).trans rfl⟩, ⟨blk_frozen h 0, blk_frozen h 1, blk_frozen h 2, blk_frozen h 3, blk_frozen h 4, blk_frozen h 5, blk_frozen h 6⟩, blk_lt h⟩
/-- An element of a list of expressions. -/
theorem eelt {w : World} {ok : Nat → Prop} {A : Option Addr} {l : List Ex} (h : Kd.F kEx w ok A l.length l) (i : Nat) (hi : i < l.length) : ∃ ad A4 c4 A5 c5 A6 c6, A = some ad ∧ FE w ok l[i] A4 c4 A5 c5 A6 c6 ∧
    w.cell? (ad.add (i * 7)) = some (.int .i64 l[i].f0) ∧ w.cell? ⟨(ad.add (i * 7)).block, (ad.add (i * 7)).off + 1, none⟩ = some (.int .i64 l[i].f1) ∧ w.cell? ⟨(ad.add (i * 7)).block, (ad.add (i * 7)).off + 2, none⟩ = some (.string l[i].f2) ∧
    w.cell? ⟨(ad.add (i * 7)).block, (ad.add (i * 7)).off + 3, none⟩ = some (.bool l[i].f3) ∧ w.cell? ⟨(ad.add (i * 7)).block, (ad.add (i * 7)).off + 4, none⟩ = some (.slice A4 l[i].f4.length c4) ∧ w.cell? ⟨(ad.add (i * 7)).block, (ad.add (i * 7)).off + 5, none⟩ = some (.slice A5 l[i].f5.length c5) ∧
    w.cell? ⟨(ad.add (i * 7)).block, (ad.add (i * 7)).off + 6, none⟩ = some (.slice A6 l[i].f6.length c6) := by
  obtain ⟨ad, c, e, _, hfk, hc0, _⟩ := Kd.F_get h z31 i (by omega) (by omega)
  rw [getD_at z31 l i hi] at hfk
  obtain ⟨A4, c4, A5, c5, A6, c6, rfl, hf⟩ := FE.of_fk hfk
  have hc : ∀ j u, (elist l[i] A4 c4 A5 c5 A6 c6)[j]? = some u → w.cell? (ad.add (i * 7 + j)) = some u := hc0
  exact ⟨ad, A4, c4, A5, c5, A6, c6, e, hf, hc 0 _ rfl, by rw [← add_field _ _ 1 (by omega)]; exact hc 1 _ rfl, by rw [← add_field _ _ 2 (by omega)]; exact hc 2 _ rfl, by rw [← add_field _ _ 3 (by omega)]; exact hc 3 _ rfl, by rw [← add_field _ _ 4 (by omega)]; exact hc 4 _ rfl, by rw [← add_field _ _ 5 (by omega)]; exact hc 5 _ rfl, by rw [← add_field _ _ 6 (by omega)]; exact hc 6 _ rfl⟩
end Go.Proofs.Ytlenfmnkbepoiaa.PSitesTell
namespace Go.Proofs.Ytlenfmnkbepoiaa.PSitesTell
open Go.RowKit Go.Proofs.YtlenfmnkbepoiaaW.Mine Go.Proofs.YtlenfmnkbepoiaaW.PrintWords Go.Proofs.YtlenfmnkbepoiaaW.PrintLast Go.Proofs.YtlenfmnkbepoiaaW.PrintMore
set_option linter.unusedVariables false
set_option linter.unusedSimpArgs false
mutual
def nodesE : Ex → Nat
  | ⟨_, _, _, _, _, _, ks⟩ => nodesK ks + 1
def nodesK : List Ex → Nat
  | [] => 0
  | a :: l => nodesE a + nodesK l
end
theorem nodesE_eq (x : Ex) : nodesE x = nodesK x.f6 + 1 := by cases x; simp only [nodesE]
theorem nodesK_drop (l : List Ex) (i : Nat) (hi : i < l.length) : nodesK (l.drop i) = nodesE l[i] + nodesK (l.drop (i + 1)) := by
  rw [List.drop_eq_getElem_cons hi]
  simp only [nodesK]
mutual
def numE : Ex → Nat
  | ⟨_, _, _, _, ts, _, ks⟩ => ts.length + numK ks
def numK : List Ex → Nat
  | [] => 0
  | a :: l => numE a + numK l
end
theorem numE_eq (x : Ex) : numE x = x.f4.length + numK x.f6 := by cases x; simp only [numE]
theorem numK_nil : numK [] = 0 := by simp only [numK]
theorem numK_cons (a : Ex) (l : List Ex) : numK (a :: l) = numE a + numK l := by simp only [numK]
/-- The number of an expression's nodes, as it is counted in 64 bits. -/
def cntE (x : Ex) : Int := wrap64 (nodesE x : Int)
/-! The sites of an expression with a number: types, and numbers of nodes. -/
mutual
def sitesE (n : Int) : Ex → List (Ty × Int)
  | ⟨_, _, _, _, ts, _, ks⟩ => ts.map (fun t => (t, n)) ++ sitesK (wrap64 (n + 1)) ks
def sitesK (n : Int) : List Ex → List (Ty × Int)
  | [] => []
  | a :: l => sitesE n a ++ sitesK (wrap64 (n + wrap64 (nodesE a : Int))) l
end
theorem sitesE_eq (n : Int) (x : Ex) : sitesE n x = x.f4.map (fun t => (t, n)) ++ sitesK (wrap64 (n + 1)) x.f6 := by cases x; simp only [sitesE]
theorem sitesK_nil (n : Int) : sitesK n [] = [] := by simp only [sitesK]
theorem sitesK_cons (n : Int) (a : Ex) (l : List Ex) : sitesK n (a :: l) = sitesE n a ++ sitesK (wrap64 (n + cntE a)) l := by simp only [sitesK, cntE]
mutual
theorem sitesE_len : ∀ (x : Ex) (n : Int), (sitesE n x).length = numE x
  | ⟨_, _, _, _, ts, _, ks⟩, n => by rw [sitesE_eq, List.length_append, List.length_map, sitesK_len ks, numE_eq]
theorem sitesK_len : ∀ (l : List Ex) (n : Int), (sitesK n l).length = numK l
  | [], n => by rw [sitesK_nil, numK_nil]; rfl
  | a :: l, n => by rw [sitesK_cons, List.length_append, sitesE_len a, sitesK_len l, numK_cons]
end
/-- What is turned, from a site's number on. -/
def turnT (F : Nat → Ty → Ty) (i : Nat) : List Ty → List Ty
  | [] => []
  | a :: l => F i a :: turnT F (i + 1) l
theorem turnT_len (F : Nat → Ty → Ty) : ∀ (l : List Ty) (i : Nat), (turnT F i l).length = l.length
  | [], _ => rfl
  | a :: l, i => by simp only [turnT, List.length_cons, turnT_len F l]
mutual
def turnE (F : Nat → Ty → Ty) (i : Nat) : Ex → Ex
  | ⟨a, b, c, d, ts, ls, ks⟩ => ⟨a, b, c, d, turnT F i ts, ls, turnK F (i + ts.length) ks⟩
def turnK (F : Nat → Ty → Ty) (i : Nat) : List Ex → List Ex
  | [] => []
  | a :: l => turnE F i a :: turnK F (i + numE a) l
end
theorem turnE_eq (F : Nat → Ty → Ty) (i : Nat) (x : Ex) : turnE F i x = ⟨x.f0, x.f1, x.f2, x.f3, turnT F i x.f4, x.f5, turnK F (i + x.f4.length) x.f6⟩ := by cases x; simp only [turnE]
theorem turnK_nil (F : Nat → Ty → Ty) (i : Nat) : turnK F i [] = [] := by simp only [turnK]
theorem turnK_cons (F : Nat → Ty → Ty) (i : Nat) (a : Ex) (l : List Ex) : turnK F i (a :: l) = turnE F i a :: turnK F (i + numE a) l := by simp only [turnK]
theorem turnK_len (F : Nat → Ty → Ty) : ∀ (l : List Ex) (i : Nat), (turnK F i l).length = l.length
  | [], i => by rw [turnK_nil]
  | a :: l, i => by rw [turnK_cons, List.length_cons, List.length_cons, turnK_len F l]
/-- Of bindings. -/
def turnB (F : Nat → Ty → Ty) (i : Nat) : List Bi → List Bi
  | [] => []
  | a :: l => ⟨a.f0, F i a.f1⟩ :: turnB F (i + 1) l
theorem turnB_len (F : Nat → Ty → Ty) : ∀ (l : List Bi) (i : Nat), (turnB F i l).length = l.length
  | [], _ => rfl
  | a :: l, i => by simp only [turnB, List.length_cons, turnB_len F l]
/-- Of a definition. -/
def turnD (F : Nat → Ty → Ty) (d : De) : De :=
  ⟨⟨d.f0.f0, turnB F 0 d.f0.f1, turnB F d.f0.f1.length d.f0.f2, F (d.f0.f1.length + d.f0.f2.length) d.f0.f3⟩, turnE F (d.f0.f1.length + d.f0.f2.length + 1) d.f1⟩
def sitesD (d : De) : List (Ty × Int) := d.f0.f1.map (fun b => (b.f1, 0)) ++ d.f0.f2.map (fun b => (b.f1, 0)) ++ [(d.f0.f3, 0)] ++ sitesE 1 d.f1
end Go.Proofs.Ytlenfmnkbepoiaa.PSitesTell
namespace Go.Proofs.Ytlenfmnkbepoiaa.PSitesTell
open Go.RowKit Go.Shelf Go.Proofs.YtlenfmnkbepoiaaW.Mine Go.Proofs.YtlenfmnkbepoiaaW.PrintWords Go.Proofs.YtlenfmnkbepoiaaW.PrintLast Go.Proofs.YtlenfmnkbepoiaaW.PrintMore
attribute [local go_sem] Oper.semAt_some
set_option linter.unusedVariables false
set_option linter.unusedSimpArgs false
/-- Kids few enough to be read. -/
inductive So : Ex → Prop
  | mk (x : Ex) (h4 : x.f4.length * 80 ≤ 140737488351232) (hl : x.f6.length * 112 ≤ 140737488351232) (hs : ∀ y, y ∈ x.f6 → So y) : So x
theorem So.types {x : Ex} (h : So x) : x.f4.length * 80 ≤ 140737488351232 := by cases h; assumption
theorem So.len {x : Ex} (h : So x) : x.f6.length * 112 ≤ 140737488351232 := by cases h; assumption
theorem So.all {x : Ex} (h : So x) : ∀ y, y ∈ x.f6 → So y := by cases h; assumption
theorem size_kidsE (x y : Ex) (hy : y ∈ x.f6) : SizeOf.sizeOf y < SizeOf.sizeOf x := by
  have := List.sizeOf_lt_of_mem hy
  cases x
  simp at this ⊢
  omega
theorem yield_any {m : Nat} (m' : Nat) {P : Program} {l : Nat} {args : Array Value} {W : World} {R : Ending → World → Prop} (h : YieldAt Fence.wide m P l args W R) : YieldAt Fence.wide m' P l args W R := by
  obtain ⟨fn, tmps, assign, body, hy, hR⟩ := h
  exact ⟨fn, tmps, assign, body, hy, hR.1, fun c cs _ => hR.2 c cs (room_wide _)⟩
/-- What a round keeps: all below n, and all cells but those of block B. -/
def KC (n B : Nat) (W W' : World) : Prop := Below n W W' ∧ W.heap.size ≤ W'.heap.size ∧ ∀ i, i ≠ B → ∀ c t r, W.heap[i]? = some (.cells c t r) → W'.heap[i]? = some (.cells c t r)
theorem KC.trans {n B : Nat} {W V U : World} (h : KC n B W V) (k : KC n B V U) : KC n B W U := ⟨h.1.trans k.1, Nat.le_trans h.2.1 k.2.1, fun i hi c t r hc => k.2.2 i hi c t r (h.2.2 i hi c t r hc)⟩
theorem KC.refl (n B : Nat) (W : World) : KC n B W W := ⟨Below.refl _ _, Nat.le_refl _, fun _ _ _ _ _ h => h⟩
theorem KC.alloc {n B : Nat} {W V : World} (h : KC n B W V) (hn : n ≤ V.heap.size) (o : Obj) : KC n B W (V.alloc o) := ⟨h.1.alloc hn o, by rw [World.size_alloc]; exact Nat.le_succ_of_le h.2.1, fun i hi c t r hc => blk_alloc (h.2.2 i hi c t r hc) o⟩
theorem KC.put {n B : Nat} {w : World} (hn : n ≤ w.heap.size) (W : World) (l : Nat) (o o' : Obj) (hl : w.heap.size ≤ l) (h : W.heap[l]? = some o) (hc : o.isCells = false) (hw : o.isWalk = false) : KC n B W (W.putObj l o') := by
  refine ⟨belowK_b hn W l o o' hl h hc hw, (grownBy_putObj' W l o').size, fun i hi c t r hk => ?_⟩
  refine ((grownBy_putObj' W l o').block i (blk_lt hk) (fun e => ?_)).trans hk
  cases e
  rw [h] at hk
  cases hk
  cases hc
set_option maxRecDepth 100000 in
set_option maxHeartbeats 4000000 in
theorem ewalk_in (w0 : World) (B l N : Nat) (hB : w0.heap.size ≤ B) (J Jx : List Value → World → Prop) (hA : ∀ pre W o, J pre W → J pre (W.alloc o))
    (hY : ∀ m pre x W, J pre W → pre.length < N → YieldAt Fence.wide m Try.prog l #[x] W fun e W' => (e = .returned (.bool true) ∧ J (pre ++ [x]) W' ∧ KC w0.heap.size B W W') ∨ (e = .returned (.bool false) ∧ Jx (pre ++ [x]) W')) :
    ∀ (k : Nat) (t : Ex), SizeOf.sizeOf t < k → So t → ∀ (A4 : Option Addr) (c4 : Nat) (A5 : Option Addr) (c5 : Nat) (A6 : Option Addr) (c6 : Nat), FE w0 (fun i => i < w0.heap.size) t A4 c4 A5 c5 A6 c6 → ∀ (n : Nat) (pre : List Value) (W : World), Below w0.heap.size w0 W → B < W.heap.size → J pre W → pre.length + nodesE t ≤ N →
    CallsIn Fence.wide n Try.prog 111 #[ev t A4 c4 A5 c5 A6 c6, .func (.yield l) #[] #[]] W fun e W' => (e = .returned (.bool true) ∧ (∃ ys : List Value, ys.length = nodesE t ∧ J (pre ++ ys) W') ∧ KC w0.heap.size B W W') ∨ (e = .returned (.bool false) ∧ ∃ q : List Value, q.length ≤ nodesE t ∧ Jx (pre ++ q) W')
  | 0, _, h, _ => absurd h (Nat.not_lt_zero _)
  | k + 1, t, hk, hsm => by
    intro A4 c4 A5 c5 A6 c6 hf n pre W hb hBW hJ hN
    have hW1 := hA pre W (.cells #[.int .i64 t.f0, .int .i64 t.f1, .string t.f2, .bool t.f3, .slice A4 t.f4.length c4, .slice A5 t.f5.length c5, .slice A6 t.f6.length c6] 31) hJ
    have kT := blk_new W (.cells #[.int .i64 t.f0, .int .i64 t.f1, .string t.f2, .bool t.f3, .slice A4 t.f4.length c4, .slice A5 t.f5.length c5, .slice A6 t.f6.length c6] 31)
    have hb1 := hb.trans ((below_alloc1 W (.cells #[.int .i64 t.f0, .int .i64 t.f1, .string t.f2, .bool t.f3, .slice A4 t.f4.length c4, .slice A5 t.f5.length c5, .slice A6 t.f6.length c6] 31)).mono hb.size)
    have hKC : KC w0.heap.size B W (W.alloc (.cells #[.int .i64 t.f0, .int .i64 t.f1, .string t.f2, .bool t.f3, .slice A4 t.f4.length c4, .slice A5 t.f5.length c5, .slice A6 t.f6.length c6] 31)) := (KC.refl _ _ W).alloc hb.size _
    have hne := nodesE_eq t
    have hN1 : pre.length < N := by omega
    obtain ⟨⟨p0, p1, p2, p3, p4, p5, p6⟩, _, lp⟩ := seven kT
    obtain ⟨fn, tmps, assign, body, hy, hR⟩ := hY (n - 1) pre (ev t A4 c4 A5 c5 A6 c6) _ hW1 hN1
    have HNE := Aside0.mk hne
    clear hne
    refine callsIn_of_wp Try.func111 rfl trivial ?_ rfl
    simp only [Try.ntmps111, List.size_toArray, List.length_cons, List.length_nil, Nat.reduceAdd, Nat.reduceSub, Array.replicate_succ, Array.replicate_zero, List.push_toArray, List.append_toArray, List.nil_append, List.cons_append]
    gi_wp2
    refine ⟨fun h => by simp [Fence.wide] at h, hR.mono ?_⟩
    clear hR hy
    rintro e W2 (⟨rfl, hJ2, hk2⟩ | ⟨rfl, hx2⟩)
    · clear p0 p1 p2 p3 p4 p5 p6 lp
      replace kT := hk2.2.2 W.heap.size (by omega) _ _ _ kT
      have hk1 := hKC.trans hk2
      have hb2 := hb1.trans hk2.1
      obtain ⟨⟨p0, p1, p2, p3, p4, p5, p6⟩, _, lp⟩ := seven kT
      have hsl := hsm.len
      gi_wp2
      clear p0 p1 p2 p3 p4 p5 p6 lp kT
      gi_loopw [14] (fun v wr => ∃ (i : Nat) (ys : List Value), v = .int .i64 i ∧ i ≤ t.f6.length ∧ ys.length + nodesK (t.f6.drop i) = nodesE t ∧ J (pre ++ ys) wr ∧ KC w0.heap.size B W wr) (fun v wr => match v with | .int _ i => t.f6.length - i.toNat | _ => 0)
      case atStart => exact ⟨0, [ev t A4 c4 A5 c5 A6 c6], rfl, Nat.zero_le _, by rw [List.drop_zero, HNE.out]; simp [Nat.add_comm], hJ2, hk1⟩
      case round =>
        clear hJ2 hk1 hb2 hk2
        obtain ⟨i, ys, rfl, hi, hys, hJr, hkr⟩ := hrel
        have hbr := hb.trans hkr.1
        by_cases hlt : i < t.f6.length
        · have ci : decide ((i : Int) < (t.f6.length : Int)) = true := decide_eq_true (by omega)
          obtain ⟨ad, X4, e4, X5, e5, X6, e6, hAd, fx, x0, x1, x2, x3, x4, x5, x6⟩ := eelt hf.2.2.2.2.2 i hlt
          subst hAd
          have hb' := hbr
          replace x0 := cell_up hbr x0
          replace x1 := cell_up hbr x1
          replace x2 := cell_up hbr x2
          replace x3 := cell_up hbr x3
          replace x4 := cell_up hbr x4
          replace x5 := cell_up hbr x5
          replace x6 := cell_up hbr x6
          have i0 : (0 : Int) ≤ (i : Int) := by omega
          have i1 : (i : Int) < (t.f6.length : Int) := by omega
          have kX := blk_new wr (.cells #[.int .i64 t.f6[i].f0, .int .i64 t.f6[i].f1, .string t.f6[i].f2, .bool t.f6[i].f3, .slice X4 t.f6[i].f4.length e4, .slice X5 t.f6[i].f5.length e5, .slice X6 t.f6[i].f6.length e6] 31)
          have hJX := hA _ wr (.cells #[.int .i64 t.f6[i].f0, .int .i64 t.f6[i].f1, .string t.f6[i].f2, .bool t.f6[i].f3, .slice X4 t.f6[i].f4.length e4, .slice X5 t.f6[i].f5.length e5, .slice X6 t.f6[i].f6.length e6] 31) hJr
          have hkX := hkr.alloc hbr.size (.cells #[.int .i64 t.f6[i].f0, .int .i64 t.f6[i].f1, .string t.f6[i].f2, .bool t.f6[i].f3, .slice X4 t.f6[i].f4.length e4, .slice X5 t.f6[i].f5.length e5, .slice X6 t.f6[i].f6.length e6] 31)
          have hnd := nodesK_drop t.f6 i hlt
          have hrec := ewalk_in w0 B l N hB J Jx hA hY k t.f6[i] (by have := size_kidsE t t.f6[i] (List.getElem_mem hlt); omega) (hsm.all _ (List.getElem_mem hlt)) X4 e4 X5 e5 X6 e6 (fx.mono (fun _ h => h)) (n - 1) (pre ++ ys) _ (hb.trans hkX.1) (Nat.lt_of_lt_of_le hBW hkX.2.1) hJX (by rw [List.length_append]; omega)
          have HND := Aside0.mk hnd
          have HYS := Aside0.mk hys
          obtain ⟨⟨q0, q1, q2, q3, q4, q5, q6⟩, _, lq⟩ := seven kX
          clear hnd hys
          gi_wp2_with ((first | refine ⟨trivial, fun h => by simp [Fence.wide] at h, ?_⟩ | refine ⟨fun h => by simp [Fence.wide] at h, ?_⟩); gi_at_call 111; refine hrec.mono ?_; clear hrec; rintro e W3 (⟨rfl, ⟨zs, hzl, hJ3⟩, hk3⟩ | ⟨rfl, q, hq, hx3⟩))
          · gi_wp2
            go_roundw
            case rel => exact ⟨i + 1, ys ++ zs, (by first | rfl | (push_cast; rfl)), hlt, by rw [List.length_append, hzl]; have := HND.out; have := HYS.out; omega, by rw [← List.append_assoc]; exact hJ3, hkX.trans hk3⟩
            case measure =>
              simp only
              omega
          · gi_wp2
            go_ret
            exact .inr ⟨rfl, ys ++ q, by rw [List.length_append]; have := HND.out; have := HYS.out; omega, by rw [← List.append_assoc]; exact hx3⟩
        · have cn : decide ((i : Int) < (t.f6.length : Int)) = false := decide_eq_false (by omega)
          have e0 : t.f6.drop i = [] := List.drop_eq_nil_of_le (by omega)
          rw [e0] at hys
          have HYS := Aside0.mk hys
          clear e0 hys
          gi_wp2
          go_ret
          exact .inl ⟨rfl, ⟨ys, by have := HYS.out; simpa [nodesK] using this, hJr⟩, hkr⟩
    · gi_wp2
      go_ret
      exact .inr ⟨rfl, [ev t A4 c4 A5 c5 A6 c6], by rw [HNE.out]; simp, hx2⟩
theorem kept_blk {A B : World} {g : Nat} {cs : Array Value} {t : TypeId} {fr : Nat × Nat} {row : Option Nat} (h : A.heap[g]? = some (.cells cs t fr)) (hg : A.grownBy B row) (hr : ∀ r, row = some r → ∃ o : Obj, A.heap[r]? = some o ∧ o.isCells = false) : B.heap[g]? = some (.cells cs t fr) :=
  (hg.block g (blk_lt h) (fun e => by obtain ⟨o, ho, hc⟩ := hr g e.symm; rw [h] at ho; cases ho; cases hc)).trans h
set_option maxRecDepth 100000 in
set_option maxHeartbeats 4000000 in
theorem within_in (w0 : World) (B l Bn n : Nat) (hB : w0.heap.size ≤ B) (J Jx : List Value → World → Prop) (hA : ∀ pre W o, J pre W → J pre (W.alloc o)) (t : Ex) (hsm : So t) (A4 : Option Addr) (c4 : Nat) (A5 : Option Addr) (c5 : Nat) (A6 : Option Addr) (c6 : Nat) (hf : FE w0 (fun i => i < w0.heap.size) t A4 c4 A5 c5 A6 c6)
    (hY : ∀ pre x W, J pre W → pre.length < nodesE t → YieldAt Fence.wide (n - 1) Try.prog l #[x] W fun e W' => (e = .returned (.bool true) ∧ J (pre ++ [x]) W' ∧ KC w0.heap.size B W W') ∨ (e = .returned (.bool false) ∧ Jx (pre ++ [x]) W'))
    (W : World) (hb : Below w0.heap.size w0 W) (hBW : B < W.heap.size) (hBn : W.heap[Bn]? = some (.cells (ecells t A4 c4 A5 c5 A6 c6) 31 (0, 0))) (h0 : J [] W) :
    CallsIn Fence.wide n Try.prog 110 #[.func (.yield l) #[] #[], .pointer (some ⟨Bn, 0, none⟩)] W fun e W' => (∃ v, e = .returned v) ∧ ((∃ ys : List Value, ys.length = nodesE t ∧ J ys W') ∨ (∃ q : List Value, q.length ≤ nodesE t ∧ Jx q W')) := by
  have hp := ewalk_in w0 B l (nodesE t) hB J Jx hA (fun m pre x W hj hl => yield_any m (hY pre x W hj hl)) _ t (Nat.lt_succ_self _) hsm A4 c4 A5 c5 A6 c6 hf (n - 1) [] W hb hBW h0 (by simp)
  obtain ⟨⟨p0, p1, p2, p3, p4, p5, p6⟩, _, lp⟩ := seven hBn
  refine callsIn_of_wp Try.func110 rfl trivial ?_ rfl
  simp only [Try.ntmps110, List.size_toArray, List.length_cons, List.length_nil, Nat.reduceAdd, Nat.reduceSub, Array.replicate_succ, Array.replicate_zero, List.push_toArray, List.append_toArray, List.nil_append, List.cons_append]
  gi_wp2_with ((first | refine ⟨trivial, fun h => by simp [Fence.wide] at h, ?_⟩ | refine ⟨fun h => by simp [Fence.wide] at h, ?_⟩); gi_at_call 111; refine hp.mono ?_; clear hp; rintro e W1 (⟨rfl, ⟨ys, hy, hJ1⟩, _⟩ | ⟨rfl, q, hq, hx⟩))
  · go_end0
    exact ⟨⟨_, rfl⟩, .inl ⟨ys, hy, by simpa using hJ1⟩⟩
  · go_end0
    exact ⟨⟨_, rfl⟩, .inr ⟨q, hq, by simpa using hx⟩⟩
theorem within_c (t : Ex) (A4 : Option Addr) (c4 : Nat) (A5 : Option Addr) (c5 : Nat) (A6 : Option Addr) (c6 : Nat) (w : World) : Calls Try.prog 105 #[ev t A4 c4 A5 c5 A6 c6] w fun e w' => e = .returned (.func (.func 110) #[] #[.pointer (some ⟨w.heap.size, 0, none⟩)]) ∧ w' = w.alloc (.cells (ecells t A4 c4 A5 c5 A6 c6) 31) := by
  go_enter Try.func105, Try.ntmps105
  go_wp2
  go_ret
  exact ⟨rfl, rfl⟩
theorem within_stops (w0 : World) (B Bn n : Nat) (hB : w0.heap.size ≤ B) (t : Ex) (hsm : So t) (A4 : Option Addr) (c4 : Nat) (A5 : Option Addr) (c5 : Nat) (A6 : Option Addr) (c6 : Nat) (hf : FE w0 (fun i => i < w0.heap.size) t A4 c4 A5 c5 A6 c6) (w : World) (hb : Below w0.heap.size w0 w) (hBW : B < w.heap.size) (hBn : w.heap[Bn]? = some (.cells (ecells t A4 c4 A5 c5 A6 c6) 31 (0, 0))) :
    SeqStopsK Fence.wide n Try.prog 110 #[.pointer (some ⟨Bn, 0, none⟩)] (fun x : Value => #[x]) (KC w0.heap.size B) (fun ys => ys.length = nodesE t) (fun q => q.length ≤ nodesE t) (nodesE t) w := fun l J Jx W hW hJ hJx hY h0 =>
  within_in w0 B l Bn n hB J Jx (fun pre W o h => hJ pre W (W.alloc o) none h (World.grownBy_alloc W o none) (fun r e => by cases e)) t hsm A4 c4 A5 c5 A6 c6 hf hY W (hb.trans (hW.mono hb.size)) (Nat.lt_of_lt_of_le hBW hW.size) ((hW.block Bn (blk_lt hBn)).trans hBn) h0
def NI (w : World) (pre : List Value) (W : World) : Prop := W.heap[w.heap.size + 1]? = some (.cells #[.int .i64 (wrap64 (pre.length : Int))] 3 (0, 0)) ∧ Below w.heap.size w W
theorem NI.own (w : World) (B : Nat) (hB : w.heap.size ≤ B) : OwnFrom B (NI w) := by
  have h : Own (fun (s : List Value) W => W.heap[w.heap.size + 1]? = some (.cells #[.int .i64 (wrap64 (s.length : Int))] 3 (0, 0))) := fun st X Y row hs hg hr => kept_blk hs hg hr
  exact OwnFrom.and (h.from _) (ownFrom_below (Nat.le_refl _) hB)
theorem wrap_next (n : Nat) : wrap64 (wrap64 (n : Int) + 1) = wrap64 ((n + 1 : Nat) : Int) := by unfold wrap64; omega
theorem below_put {w W : World} {D : Nat} {o o' : Obj} (hB : Below w.heap.size w W) (hD : w.heap.size ≤ D) (hK : W.heap[D]? = some o) (ho : o.isCells = false) (hw : o.isWalk = false) : Below w.heap.size w (W.putObj D o') := hB.trans (belowK_b (w := w) (Nat.le_refl _) W D _ _ hD hK ho hw)
set_option maxRecDepth 100000 in
set_option maxHeartbeats 4000000 in
theorem count_c (t : Ex) (hsm : So t) {A4 : Option Addr} {c4 : Nat} {A5 : Option Addr} {c5 : Nat} {A6 : Option Addr} {c6 : Nat} {w : World} (hf : FE w (fun i => i < w.heap.size) t A4 c4 A5 c5 A6 c6) :
    Calls Try.prog 93 #[ev t A4 c4 A5 c5 A6 c6] w fun e w' => e = .returned (.int .i64 (wrap64 (nodesE t : Int))) ∧ Below w.heap.size w w' := by
  refine (callsIn_wide (n := 3)).1 ?_
  refine callsIn_of_wp_marks Try.func93 rfl trivial ?_ rfl
  simp only [Try.ntmps93, List.size_toArray, List.length_cons, List.length_nil, Nat.reduceAdd, Nat.reduceSub, Array.replicate_succ, Array.replicate_zero, List.push_toArray, List.append_toArray, List.nil_append, List.cons_append]
  have k0 := blk_new w (.cells #[.int .i64 t.f0, .int .i64 t.f1, .string t.f2, .bool t.f3, .slice A4 t.f4.length c4, .slice A5 t.f5.length c5, .slice A6 t.f6.length c6] 31)
  have k1 := blk_new (w.alloc (.cells #[.int .i64 t.f0, .int .i64 t.f1, .string t.f2, .bool t.f3, .slice A4 t.f4.length c4, .slice A5 t.f5.length c5, .slice A6 t.f6.length c6] 31)) (.cells #[.int .i64 0] 3)
  rw [World.size_alloc] at k1
  replace k0 := blk_alloc k0 (.cells #[.int .i64 0] 3)
  have hB0 := (below_alloc1 w (.cells #[.int .i64 t.f0, .int .i64 t.f1, .string t.f2, .bool t.f3, .slice A4 t.f4.length c4, .slice A5 t.f5.length c5, .slice A6 t.f6.length c6] 31)).trans ((below_alloc1 (w.alloc (.cells #[.int .i64 t.f0, .int .i64 t.f1, .string t.f2, .bool t.f3, .slice A4 t.f4.length c4, .slice A5 t.f5.length c5, .slice A6 t.f6.length c6] 31)) (.cells #[.int .i64 0] 3)).mono (below_alloc1 w (.cells #[.int .i64 t.f0, .int .i64 t.f1, .string t.f2, .bool t.f3, .slice A4 t.f4.length c4, .slice A5 t.f5.length c5, .slice A6 t.f6.length c6] 31)).size)
  obtain ⟨⟨p0, p1, p2, p3, p4, p5, p6⟩, _, lp⟩ := seven k0
  gi_wp2_with ((first | refine ⟨trivial, fun h => by simp [Fence.wide] at h, ?_⟩ | refine ⟨trivial, ?_⟩ | refine ⟨fun h => by simp [Fence.wide] at h, ?_⟩); gi_at_call 105; refine (callsIn_wide.2 (within_c t A4 c4 A5 c5 A6 c6 _)).mono ?_; rintro e w' ⟨rfl, rfl⟩)
  clear p0 p1 p2 p3 p4 p5 p6 lp
  have k2 := blk_new ((w.alloc (.cells #[.int .i64 t.f0, .int .i64 t.f1, .string t.f2, .bool t.f3, .slice A4 t.f4.length c4, .slice A5 t.f5.length c5, .slice A6 t.f6.length c6] 31)).alloc (.cells #[.int .i64 0] 3)) (.cells #[.int .i64 t.f0, .int .i64 t.f1, .string t.f2, .bool t.f3, .slice A4 t.f4.length c4, .slice A5 t.f5.length c5, .slice A6 t.f6.length c6] 31)
  have hB1 := hB0.trans ((below_alloc1 ((w.alloc (.cells #[.int .i64 t.f0, .int .i64 t.f1, .string t.f2, .bool t.f3, .slice A4 t.f4.length c4, .slice A5 t.f5.length c5, .slice A6 t.f6.length c6] 31)).alloc (.cells #[.int .i64 0] 3)) (.cells #[.int .i64 t.f0, .int .i64 t.f1, .string t.f2, .bool t.f3, .slice A4 t.f4.length c4, .slice A5 t.f5.length c5, .slice A6 t.f6.length c6] 31)).mono hB0.size)
  replace k1 := blk_alloc k1 (.cells #[.int .i64 t.f0, .int .i64 t.f1, .string t.f2, .bool t.f3, .slice A4 t.f4.length c4, .slice A5 t.f5.length c5, .slice A6 t.f6.length c6] 31)
  rw [World.size_alloc, World.size_alloc] at k2
  obtain ⟨W0, hW0⟩ : ∃ W0, (((w.alloc (.cells #[.int .i64 t.f0, .int .i64 t.f1, .string t.f2, .bool t.f3, .slice A4 t.f4.length c4, .slice A5 t.f5.length c5, .slice A6 t.f6.length c6] 31)).alloc (.cells #[.int .i64 0] 3)).alloc (.cells #[.int .i64 t.f0, .int .i64 t.f1, .string t.f2, .bool t.f3, .slice A4 t.f4.length c4, .slice A5 t.f5.length c5, .slice A6 t.f6.length c6] 31)) = W0 := ⟨_, rfl⟩
  have hsz : W0.heap.size = w.heap.size + 1 + 1 + 1 := by rw [← hW0]; simp
  rw [hW0] at k1 k2 hB1 ⊢
  clear hW0 k0 hB0
  refine wpIn_rangeFunc_ownF (F := Fence.wide) rfl (by decide) (gf := 110) (lb := #[.pointer (some ⟨w.heap.size + 1 + 1, 0, none⟩)]) rfl trivial (enters_of Try.func110 (by kernel_rfl) rfl)
    (within_stops w (w.heap.size + 1) (w.heap.size + 1 + 1) 2 (by omega) t hsm A4 c4 A5 c5 A6 c6 hf W0 hB1 (by omega) k2) KC.trans (KC.put (by omega)) (Below.refl _ _) (fun _ => rfl)
    (NI w) (fun _ _ _ => False) (NI.own w _ (by omega)) (fun _ _ _ _ _ hs _ _ => hs)
    ⟨by rw [show wrap64 (([] : List Value).length : Int) = 0 from by simp [wrap64]]; exact k1, hB1⟩
    (fun x => { tmps := #[ev t A4 c4 A5 c5 A6 c6, .pointer (some ⟨w.heap.size, 0, none⟩), .int .i64 0, .pointer (some ⟨w.heap.size + 1, 0, none⟩), .agg #[.int .i64 t.f0, .int .i64 t.f1, .string t.f2, .bool t.f3, .slice A4 t.f4.length c4, .slice A5 t.f5.length c5, .slice A6 t.f6.length c6], .func (.func 110) #[] #[.pointer (some ⟨w.heap.size + 1 + 1, 0, none⟩)], x, undef, undef, undef], defers := [] }) ?assign ?body ?done ?stop
  case assign =>
    intro l x W K hK
    gi_wp2
    simpa using hK
  case body =>
    rintro l pre x W ⟨hc, hb⟩ hl
    obtain ⟨c0, f0, lb⟩ := one hc
    gi_wp2
    refine ⟨KeepsOthers.setCell _ _ _, ⟨(Below.refl w.heap.size W).setCell (p := ⟨w.heap.size + 1, 0, none⟩) (by dsimp only; omega) _, by simp [World.setCell], fun i hi c t r h => (Below.heap_setCell W ⟨w.heap.size + 1, 0, none⟩ _ i hi).trans h⟩, ?_, below_set hb (by omega)⟩
    refine (blk_set hc 0 _).trans ?_
    rw [List.length_append, List.length_singleton, ← wrap_next]
    rfl
  case done =>
    rintro D ys W hD hS ⟨hc, hb⟩ hK
    rw [hS] at hc
    obtain ⟨c0, f0, lb⟩ := one hc
    gi_wp2
    refine ⟨by simp, .inl ⟨_, _, rfl, run_takeDeferred hK, ?_⟩⟩
    exact ⟨_, results_tmp rfl _ _ _, rfl, below_put hb (by omega) hK rfl rfl⟩
  case stop =>
    rintro D c pre W _ _ h _
    exact h.elim
end Go.Proofs.Ytlenfmnkbepoiaa.PSitesTell
namespace Go.Proofs.Ytlenfmnkbepoiaa.PSitesTell
open Go.RowKit Go.Proofs.YtlenfmnkbepoiaaW.Mine Go.Proofs.YtlenfmnkbepoiaaW.PrintWords Go.Proofs.YtlenfmnkbepoiaaW.PrintLast Go.Proofs.YtlenfmnkbepoiaaW.PrintMore
set_option linter.unusedVariables false
set_option linter.unusedSimpArgs false
section
variable {P : Program}
theorem run_copy_rows (w : World) (dT sT ty elem : TypeId) (g o dLen dCap : Nat) (a : Addr) (sLen sCap sz : Nat) (cur : Array Value) (t : TypeId) (cs : List Value)
    (hu : P.underlying dT = some (.slice elem)) (hs : (P.info? elem).map (·.size) = some sz)
    (hg : w.heap[g]? = some (.cells cur t (0, 0))) (hn : cs.length = Nat.min sLen dLen * sz)
    (hsrc : ∀ j v, cs[j]? = some v → w.cell? (a.add j) = some v) (hfit : o + cs.length ≤ cur.size) (h1 : ∀ v ∈ cs, v.oneCell' = true) :
    (Builtin.copy_ #[dT, sT] ty #[.slice (some ⟨g, o, none⟩) dLen dCap, .slice (some a) sLen sCap]).run P w =
      .ok (goInt (Nat.min sLen dLen)) (w.setRow g (cur.toList.take o ++ cs ++ cur.toList.drop (o + cs.length)).toArray) := by
  have hl := run_loadCells_list (P := P) w a cs hsrc
  have hst := run_storeCells_at P g o t cs 0 cur w hg (by simpa using hfit) h1
  cases hq : P.info? elem with
  | none => simp [hq] at hs
  | some i =>
    have hi : i.size = sz := by simpa [hq] using hs
    simp [Builtin.copy_, run_underlying hu, Builtin.lenOf, Builtin.firstCells, sizeOf, typeInfo, hq, hi, ← hn, hl, hst]
end
end Go.Proofs.Ytlenfmnkbepoiaa.PSitesTell
namespace Go.Proofs.Ytlenfmnkbepoiaa.PSitesTell
open Go.RowKit Go.Proofs.YtlenfmnkbepoiaaW.Mine Go.Proofs.YtlenfmnkbepoiaaW.PrintWords Go.Proofs.YtlenfmnkbepoiaaW.PrintLast Go.Proofs.YtlenfmnkbepoiaaW.PrintMore
set_option linter.unusedVariables false
set_option linter.unusedSimpArgs false
theorem set_list5 (cs : List Value) (o : Nat) (h : o + 5 ≤ cs.length) (v0 v1 v2 v3 v4 : Value) : ((((cs.set o v0).set (o + 1) v1).set (o + 2) v2).set (o + 3) v3).set (o + 4) v4 = cs.take o ++ [v0, v1, v2, v3, v4] ++ cs.drop (o + 5) := by
  apply List.ext_getElem?
  intro n
  by_cases h1 : n < o
  · rw [List.getElem?_append_left (by simp; omega), List.getElem?_append_left (by simp; omega), List.getElem?_take_of_lt h1]
    simp only [List.getElem?_set_ne (show ¬ o + 4 = n by omega), List.getElem?_set_ne (show ¬ o + 3 = n by omega), List.getElem?_set_ne (show ¬ o + 2 = n by omega), List.getElem?_set_ne (show ¬ o + 1 = n by omega), List.getElem?_set_ne (show ¬ o = n by omega)]
  · by_cases h2 : n < o + 5
    · rw [List.getElem?_append_left (by simp; omega), List.getElem?_append_right (by simp; omega)]
      have hl : (cs.take o).length = o := by simp; omega
      rw [hl]
      have : n = o ∨ n = o + 1 ∨ n = o + 2 ∨ n = o + 3 ∨ n = o + 4 := by omega
      rcases this with rfl | rfl | rfl | rfl | rfl
      all_goals simp [List.getElem?_set]
      all_goals omega
    · rw [List.getElem?_append_right (by simp; omega), List.getElem?_drop]
      simp only [List.getElem?_set_ne (show ¬ o + 4 = n by omega), List.getElem?_set_ne (show ¬ o + 3 = n by omega), List.getElem?_set_ne (show ¬ o + 2 = n by omega), List.getElem?_set_ne (show ¬ o + 1 = n by omega), List.getElem?_set_ne (show ¬ o = n by omega)]
      congr 1
      simp
      omega
theorem blk_cells5 {w : World} {g : Nat} {cs : List Value} {t : TypeId} (h : w.heap[g]? = some (.cells cs.toArray t (0, 0))) (o : Nat) (ho : o + 5 ≤ cs.length) (v0 v1 v2 v3 v4 : Value) :
    (((((w.setCell ⟨g, o, none⟩ v0).setCell ⟨g, o + 1, none⟩ v1).setCell ⟨g, o + 2, none⟩ v2).setCell ⟨g, o + 3, none⟩ v3).setCell ⟨g, o + 4, none⟩ v4).heap[g]? = some (.cells (cs.take o ++ [v0, v1, v2, v3, v4] ++ cs.drop (o + 5)).toArray t (0, 0)) := by
  have h1 := blk_set (blk_set (blk_set (blk_set (blk_set h o v0) (o + 1) v1) (o + 2) v2) (o + 3) v3) (o + 4) v4
  rw [← set_list5 cs o ho]
  simpa using h1
/-- A row of its own in block g. -/
def AR {α : Type} (d : Kd α) (w : World) (ok : Nat → Prop) (t : TypeId) (g : Nat) (xs : List α) : Prop := ∃ cs : List Value, w.heap[g]? = some (.cells cs.toArray t (0, 0)) ∧ Reps (Kd.FK d w ok) d.sz xs cs
theorem FK_step {α : Type} {d : Kd α} {w w' : World} {ok : Nat → Prop} {x : α} {cs : List Value} (h : Kd.FK d w ok x cs) (hs : w.heap.size ≤ w'.heap.size) (hk : ∀ k, ok k → k < w.heap.size → w'.heap[k]? = w.heap[k]?) : Kd.FK d w' ok x cs :=
  fun W hW => h W (fun k ho hl => (hW k ho (Nat.lt_of_lt_of_le hl hs)).trans (hk k ho hl))
theorem AR.kq {α : Type} {d : Kd α} {w w' : World} {ok S : Nat → Prop} {t : TypeId} {g : Nat} {xs : List α} (h : AR d w ok t g xs) (k : Kq S w w') (hg : ¬ S g) (ho : ∀ i, ok i → ¬ S i) : AR d w' ok t g xs := by
  obtain ⟨cs, hk, hr⟩ := h
  exact ⟨cs, k.blk hk hg, hr.imp_ (fun p c hp => FK_step hp k.size (fun i hi hl => k.block i hl (ho i hi)))⟩
theorem AR.below {α : Type} {d : Kd α} {w w' : World} {ok : Nat → Prop} {t : TypeId} {g : Nat} {xs : List α} (h : AR d w ok t g xs) (hb : Below w.heap.size w w') : AR d w' ok t g xs := h.kq (S := fun _ => False) (Kq.of_below hb) (fun h => h) (fun _ _ h => h)
theorem AR.lt {α : Type} {d : Kd α} {w : World} {ok : Nat → Prop} {t : TypeId} {g : Nat} {xs : List α} (h : AR d w ok t g xs) : g < w.heap.size := by obtain ⟨cs, hk, _⟩ := h; exact blk_lt hk
theorem C_lit {α : Type} (d : Kd α) {w : World} {g : Nat} {xs : List α} {inner : List Value} {ty : TypeId} (h : w.heap[g]? = some (.cells inner.toArray ty (0, 0))) (hr : Reps (d.K w) d.sz xs inner) (hm : xs.length ≤ 9223372036854775807) : d.C w (some ⟨g, 0, none⟩) xs.length xs := by
  refine ⟨rfl, hm, fun _ => ⟨_, rfl, fun j p hj => ?_⟩⟩
  have hlt : j < xs.length := (List.getElem?_eq_some_iff.1 hj).1
  have h1 : j * d.sz + d.sz ≤ inner.length := by rw [hr.1, ← Nat.succ_mul]; exact Nat.mul_le_mul_right _ hlt
  refine ⟨(inner.drop (j * d.sz)).take d.sz, by rw [List.length_take, List.length_drop]; omega, hr.2 j p hj, fun i u hu => ?_⟩
  have e : (Addr.add ⟨g, 0, none⟩ (j * d.sz + i) : Addr) = ⟨g, j * d.sz + i, none⟩ := by rw [Addr.add_lit, Nat.zero_add]
  rw [e, blk_cell h]
  have hi : i < d.sz := by
    have := (List.getElem?_eq_some_iff.1 hu).1
    rw [List.length_take] at this
    omega
  rw [List.getElem?_take_of_lt hi, List.getElem?_drop] at hu
  simpa using hu
theorem AR.F {α : Type} {d : Kd α} {w : World} {ok ok' : Nat → Prop} {t : TypeId} {g : Nat} {xs : List α} (h : AR d w ok t g xs) (hm : xs.length ≤ 9223372036854775807) (hk : ∀ k, ok k → ok' k) (hg : ok' g) : Kd.F d w ok' (some ⟨g, 0, none⟩) xs.length xs := by
  obtain ⟨cs, hb, hr⟩ := h
  exact fun W' hW => C_lit d ((hW g hg (blk_lt hb)).trans hb) (hr.imp_ (fun p c hp => hp W' (fun k ho hl => hW k (hk k ho) hl))) hm
/-- An element of a row of types. -/
theorem AR.ty {w : World} {ok : Nat → Prop} {t : TypeId} {g : Nat} {xs : List Ty} (h : AR kTy w ok t g xs) (i : Nat) (hi : i < xs.length) : ∃ X3 e3 X4 e4, FT w ok xs[i] X3 e3 X4 e4 ∧
    (w.cell? ⟨g, i * 5, none⟩ = some (.int .i64 xs[i].f0) ∧ w.cell? ⟨g, i * 5 + 1, none⟩ = some (.int .i64 xs[i].f1) ∧ w.cell? ⟨g, i * 5 + 2, none⟩ = some (.string xs[i].f2) ∧ w.cell? ⟨g, i * 5 + 3, none⟩ = some (.slice X3 xs[i].f3.length e3) ∧ w.cell? ⟨g, i * 5 + 4, none⟩ = some (.slice X4 xs[i].f4.length e4)) ∧
    (w.frozen? ⟨g, i * 5, none⟩ = false ∧ w.frozen? ⟨g, i * 5 + 1, none⟩ = false ∧ w.frozen? ⟨g, i * 5 + 2, none⟩ = false ∧ w.frozen? ⟨g, i * 5 + 3, none⟩ = false ∧ w.frozen? ⟨g, i * 5 + 4, none⟩ = false) := by
  obtain ⟨cs, hb, hl, hr⟩ := h
  have hfk := hr i _ (List.getElem?_eq_getElem hi)
  obtain ⟨X3, e3, X4, e4, e, hf⟩ := FT.of_fk hfk
  have hc : ∀ j, j < 5 → w.cell? ⟨g, i * 5 + j, none⟩ = (tcells xs[i] X3 e3 X4 e4)[j]? := fun j hj => by
    rw [blk_cell hb, ← e, List.getElem?_take_of_lt (show j < kTy.sz from hj), List.getElem?_drop]
    simp
    rfl
  exact ⟨X3, e3, X4, e4, hf, ⟨hc 0 (by omega), hc 1 (by omega), hc 2 (by omega), hc 3 (by omega), hc 4 (by omega)⟩, blk_frozen hb _, blk_frozen hb _, blk_frozen hb _, blk_frozen hb _, blk_frozen hb _⟩
/-- A type is stored anew in a row of types. -/
theorem AR.put_ty {w : World} {ok : Nat → Prop} {t : TypeId} {g : Nat} {xs : List Ty} (h : AR kTy w ok t g xs) (i : Nat) (hi : i < xs.length) {u : Ty} {A3 A4 : Option Addr} {c3 c4 : Nat} (hu : FT w ok u A3 c3 A4 c4) (hg : ∀ k, ok k → k ≠ g) :
    AR kTy (((((w.setCell ⟨g, i * 5, none⟩ (.int .i64 u.f0)).setCell ⟨g, i * 5 + 1, none⟩ (.int .i64 u.f1)).setCell ⟨g, i * 5 + 2, none⟩ (.string u.f2)).setCell ⟨g, i * 5 + 3, none⟩ (.slice A3 u.f3.length c3)).setCell ⟨g, i * 5 + 4, none⟩ (.slice A4 u.f4.length c4)) ok t g (xs.set i u) := by
  obtain ⟨cs, hb, hr⟩ := h
  have hl : i * 5 + 5 ≤ cs.length := by rw [hr.1]; show i * 5 + 5 ≤ xs.length * 5; omega
  refine ⟨_, blk_cells5 hb (i * 5) hl _ _ _ _ _, ?_⟩
  have h1 := (Kd.reps_set hr hi hu.fk (rfl : (tcells u A3 c3 A4 c4).length = 5))
  refine Reps.imp_ h1 (fun p c hp => FK_step hp (by simp [World.setCell]) (fun k hk hlt => ?_))
  have hn := hg k hk
  simp [World.setCell, Array.getElem?_modify, Ne.symm hn]
end Go.Proofs.Ytlenfmnkbepoiaa.PSitesTell
namespace Go.Proofs.Ytlenfmnkbepoiaa.PSitesTell
open Go.RowKit Go.Proofs.YtlenfmnkbepoiaaW.Mine Go.Proofs.YtlenfmnkbepoiaaW.PrintWords Go.Proofs.YtlenfmnkbepoiaaW.PrintLast Go.Proofs.YtlenfmnkbepoiaaW.PrintMore
set_option linter.unusedVariables false
set_option linter.unusedSimpArgs false
theorem src_take {α : Type} {d : Kd α} {w : World} {ok : Nat → Prop} {ad : Addr} {l : List α} (z : α) (h : Kd.F d w ok (some ad) l.length l) (hm : l.length ≤ 9223372036854775807) : ∀ k, k ≤ l.length → ∃ cs : List Value, Reps (Kd.FK d w ok) d.sz (l.take k) cs ∧ ∀ j v, cs[j]? = some v → w.cell? (ad.add j) = some v
  | 0, _ => ⟨[], by rw [List.take_zero]; exact Reps.none _ _, fun j v h => by simp at h⟩
  | k + 1, hk => by
    obtain ⟨cs, hr, hc⟩ := src_take z h hm k (by omega)
    obtain ⟨ad', c, e, hl, hfk, hcc, _⟩ := Kd.F_get h z (k : Int) (by omega) (by omega)
    obtain rfl := Option.some.inj e
    rw [getD_at z l k (by omega)] at hfk
    refine ⟨cs ++ c, ?_, fun j v hj => ?_⟩
    · rw [List.take_add_one, List.getElem?_eq_getElem (by omega)]
      exact hr.snoc hfk hl
    · have hlen : cs.length = k * d.sz := by rw [hr.1, List.length_take]; congr 1; omega
      by_cases h1 : j < cs.length
      · rw [List.getElem?_append_left h1] at hj; exact hc j v hj
      · rw [List.getElem?_append_right (by omega)] at hj
        have := hcc (j - cs.length) v hj
        rw [Int.toNat_natCast] at this
        rw [show k * d.sz + (j - cs.length) = j by omega] at this
        exact this
/-- A list's cells. -/
theorem src_cells {α : Type} {d : Kd α} {w : World} {ok : Nat → Prop} {A : Option Addr} {l : List α} (z : α) (h : Kd.F d w ok A l.length l) (hm : l.length ≤ 9223372036854775807) : ∃ cs : List Value, Reps (Kd.FK d w ok) d.sz l cs ∧ (0 < l.length → ∃ ad, A = some ad ∧ ∀ j v, cs[j]? = some v → w.cell? (ad.add j) = some v) := by
  by_cases h0 : 0 < l.length
  · obtain ⟨ad, c, e, _⟩ := Kd.F_get h z 0 (by omega) (by omega)
    subst e
    obtain ⟨cs, hr, hc⟩ := src_take z h hm l.length (Nat.le_refl _)
    rw [List.take_of_length_le (Nat.le_refl _)] at hr
    exact ⟨cs, hr, fun _ => ⟨ad, rfl, hc⟩⟩
  · obtain rfl : l = [] := List.eq_nil_of_length_eq_zero (by omega)
    exact ⟨[], Reps.none _ _, fun h => absurd h (by simp)⟩
section
variable {P : Program}
theorem run_copy_zero (w : World) (dT sT ty elem : TypeId) (d s : Option Addr) (dCap sCap sz : Nat) (hu : P.underlying dT = some (.slice elem)) (hs : (P.info? elem).map (·.size) = some sz) :
    (Builtin.copy_ #[dT, sT] ty #[.slice d 0 dCap, .slice s 0 sCap]).run P w = .ok (goInt 0) w := by
  cases hq : P.info? elem with
  | none => simp [hq] at hs
  | some i => cases d <;> cases s <;> simp [Builtin.copy_, run_underlying hu, Builtin.lenOf, Builtin.firstCells, sizeOf, typeInfo, hq, storeCells, loadCells, loadCellsFrom]
end
/-- Made, and copied into: a row of its own. -/
theorem copied {P : Program} {α : Type} {d : Kd α} {w : World} {ok : Nat → Prop} {A : Option Addr} {l : List α} {c n g cap : Nat} {t dT sT ty : TypeId} {cur : Array Value} (z : α) (hF : Kd.F d w ok A l.length l) (hm : l.length ≤ 9223372036854775807)
    (hu : P.underlying dT = some (.slice t)) (hs : (P.info? t).map (·.size) = some d.sz) (hk : w.heap[g]? = some (.cells cur t (0, 0))) (hc : cur.size = l.length * d.sz) (hn : n = l.length) (hg : ∀ k, ok k → k ≠ g) :
    ∃ w', (Builtin.copy_ #[dT, sT] ty #[.slice (some ⟨g, 0, none⟩) n cap, .slice A l.length c]).run P w = .ok (goInt n) w' ∧ AR d w' ok t g l ∧ Kq (fun b => b = g) w w' := by
  subst hn
  obtain ⟨cs, hr, hsrc⟩ := src_cells z hF hm
  by_cases h0 : 0 < l.length
  · obtain ⟨ad, rfl, hcc⟩ := hsrc h0
    have h1 : ∀ v ∈ cs, v.oneCell' = true := by
      by_cases hz : 0 < d.sz
      · exact Kd.reps_one hr hz (fun p c hp => d.K_one (Kd.FK_now hp))
      · have : cs = [] := List.eq_nil_of_length_eq_zero (by rw [hr.1, show d.sz = 0 by omega, Nat.mul_zero])
        rw [this]; simp
    have hrun := run_copy_rows (P := P) w dT sT ty t g 0 l.length cap ad l.length c d.sz cur t cs hu hs hk (by rw [hr.1]; congr 1; exact (Nat.min_self _).symm) hcc (by rw [hr.1, hc]; omega) h1
    have e : cur.toList.take 0 ++ cs ++ cur.toList.drop (0 + cs.length) = cs := by
      rw [List.take_zero, List.nil_append, List.drop_eq_nil_of_le (by rw [hr.1]; simp [hc]), List.append_nil]
    rw [e] at hrun
    refine ⟨_, by rw [hrun]; rw [show Nat.min l.length l.length = l.length from Nat.min_self _], ⟨cs, setRow_heap w g _ _ t _ hk, hr.imp_ (fun p c hp => FK_step hp (by simp [World.setRow]) (fun k hk hl => setRow_other w g k _ (hg k hk)))⟩, ?_⟩
    exact ⟨rfl, rfl, rfl, by simp [World.setRow], fun i hi hne => setRow_other w g i _ hne⟩
  · obtain rfl : l = [] := List.eq_nil_of_length_eq_zero (by omega)
    refine ⟨w, run_copy_zero w dT sT ty t _ _ _ _ d.sz hu hs, ⟨[], ?_, Reps.none _ _⟩, Kq.refl _ _⟩
    have : cur = #[] := Array.eq_empty_of_size_eq_zero (by rw [hc]; simp)
    rw [hk, this]
end Go.Proofs.Ytlenfmnkbepoiaa.PSitesTell
namespace Go.Proofs.Ytlenfmnkbepoiaa.PSitesTell
open Go.RowKit Go.Proofs.YtlenfmnkbepoiaaW.Mine Go.Proofs.YtlenfmnkbepoiaaW.PrintWords Go.Proofs.YtlenfmnkbepoiaaW.PrintLast Go.Proofs.YtlenfmnkbepoiaaW.PrintMore
set_option linter.unusedVariables false
set_option linter.unusedSimpArgs false
theorem AR.ex {w : World} {ok : Nat → Prop} {t : TypeId} {g : Nat} {xs : List Ex} (h : AR kEx w ok t g xs) (i : Nat) (hi : i < xs.length) : ∃ X4 e4 X5 e5 X6 e6, FE w ok xs[i] X4 e4 X5 e5 X6 e6 ∧
    (w.cell? ⟨g, i * 7, none⟩ = some (.int .i64 xs[i].f0) ∧ w.cell? ⟨g, i * 7 + 1, none⟩ = some (.int .i64 xs[i].f1) ∧ w.cell? ⟨g, i * 7 + 2, none⟩ = some (.string xs[i].f2) ∧ w.cell? ⟨g, i * 7 + 3, none⟩ = some (.bool xs[i].f3) ∧ w.cell? ⟨g, i * 7 + 4, none⟩ = some (.slice X4 xs[i].f4.length e4) ∧ w.cell? ⟨g, i * 7 + 5, none⟩ = some (.slice X5 xs[i].f5.length e5) ∧ w.cell? ⟨g, i * 7 + 6, none⟩ = some (.slice X6 xs[i].f6.length e6)) ∧
    (w.frozen? ⟨g, i * 7, none⟩ = false ∧ w.frozen? ⟨g, i * 7 + 1, none⟩ = false ∧ w.frozen? ⟨g, i * 7 + 2, none⟩ = false ∧ w.frozen? ⟨g, i * 7 + 3, none⟩ = false ∧ w.frozen? ⟨g, i * 7 + 4, none⟩ = false ∧ w.frozen? ⟨g, i * 7 + 5, none⟩ = false ∧ w.frozen? ⟨g, i * 7 + 6, none⟩ = false) := by
  obtain ⟨cs, hb, hl, hr⟩ := h
  have hfk := hr i _ (List.getElem?_eq_getElem hi)
  obtain ⟨X4, e4, X5, e5, X6, e6, e, hf⟩ := FE.of_fk hfk
  have hc : ∀ j, j < 7 → w.cell? ⟨g, i * 7 + j, none⟩ = (elist xs[i] X4 e4 X5 e5 X6 e6)[j]? := fun j hj => by
    rw [blk_cell hb, ← e, List.getElem?_take_of_lt (show j < kEx.sz from hj), List.getElem?_drop]
    simp
    rfl
  exact ⟨X4, e4, X5, e5, X6, e6, hf, ⟨hc 0 (by omega), hc 1 (by omega), hc 2 (by omega), hc 3 (by omega), hc 4 (by omega), hc 5 (by omega), hc 6 (by omega)⟩, blk_frozen hb _, blk_frozen hb _, blk_frozen hb _, blk_frozen hb _, blk_frozen hb _, blk_frozen hb _, blk_frozen hb _⟩
abbrev blist (x : Bi) (A3 : Option Addr) (c3 : Nat) (A4 : Option Addr) (c4 : Nat) : List Value := [.string x.f0, .int .i64 x.f1.f0, .int .i64 x.f1.f1, .string x.f1.f2, .slice A3 x.f1.f3.length c3, .slice A4 x.f1.f4.length c4]
theorem bi_fk {w : World} {ok : Nat → Prop} {x : Bi} {A3 A4 : Option Addr} {c3 c4 : Nat} (h : FT w ok x.f1 A3 c3 A4 c4) : Kd.FK kBi w ok x (blist x A3 c3 A4 c4) := k68_mkF w ok x h.1 h.2.1 h.2.2.1 h.2.2.2
theorem bi_of {w : World} {ok : Nat → Prop} {x : Bi} {cs : List Value} (h : Kd.FK kBi w ok x cs) : ∃ A3 c3 A4 c4, cs = blist x A3 c3 A4 c4 ∧ FT w ok x.f1 A3 c3 A4 c4 := by
  obtain ⟨A3, c3, A4, c4, e, h1, h2, h3, h4⟩ := k68_openF h
  exact ⟨A3, c3, A4, c4, e, h1, h2, h3, h4⟩
theorem AR.bi {w : World} {ok : Nat → Prop} {t : TypeId} {g : Nat} {xs : List Bi} (h : AR kBi w ok t g xs) (i : Nat) (hi : i < xs.length) : ∃ X3 e3 X4 e4, FT w ok xs[i].f1 X3 e3 X4 e4 ∧
    (w.cell? ⟨g, i * 6 + 1, none⟩ = some (.int .i64 xs[i].f1.f0) ∧ w.cell? ⟨g, i * 6 + 2, none⟩ = some (.int .i64 xs[i].f1.f1) ∧ w.cell? ⟨g, i * 6 + 3, none⟩ = some (.string xs[i].f1.f2) ∧ w.cell? ⟨g, i * 6 + 4, none⟩ = some (.slice X3 xs[i].f1.f3.length e3) ∧ w.cell? ⟨g, i * 6 + 5, none⟩ = some (.slice X4 xs[i].f1.f4.length e4)) ∧
    (w.frozen? ⟨g, i * 6 + 1, none⟩ = false ∧ w.frozen? ⟨g, i * 6 + 2, none⟩ = false ∧ w.frozen? ⟨g, i * 6 + 3, none⟩ = false ∧ w.frozen? ⟨g, i * 6 + 4, none⟩ = false ∧ w.frozen? ⟨g, i * 6 + 5, none⟩ = false) := by
  obtain ⟨cs, hb, hl, hr⟩ := h
  have hfk := hr i _ (List.getElem?_eq_getElem hi)
  obtain ⟨X3, e3, X4, e4, e, hf⟩ := bi_of hfk
  have hc : ∀ j, j < 6 → w.cell? ⟨g, i * 6 + j, none⟩ = (blist xs[i] X3 e3 X4 e4)[j]? := fun j hj => by
    rw [blk_cell hb, ← e, List.getElem?_take_of_lt (show j < kBi.sz from hj), List.getElem?_drop]
    simp
    rfl
  exact ⟨X3, e3, X4, e4, hf, ⟨hc 1 (by omega), hc 2 (by omega), hc 3 (by omega), hc 4 (by omega), hc 5 (by omega)⟩, blk_frozen hb _, blk_frozen hb _, blk_frozen hb _, blk_frozen hb _, blk_frozen hb _⟩
theorem AR.put_bi {w : World} {ok : Nat → Prop} {t : TypeId} {g : Nat} {xs : List Bi} (h : AR kBi w ok t g xs) (i : Nat) (hi : i < xs.length) {u : Ty} {A3 A4 : Option Addr} {c3 c4 : Nat} (hu : FT w ok u A3 c3 A4 c4) (hg : ∀ k, ok k → k ≠ g) :
    AR kBi (((((w.setCell ⟨g, i * 6 + 1, none⟩ (.int .i64 u.f0)).setCell ⟨g, i * 6 + 2, none⟩ (.int .i64 u.f1)).setCell ⟨g, i * 6 + 3, none⟩ (.string u.f2)).setCell ⟨g, i * 6 + 4, none⟩ (.slice A3 u.f3.length c3)).setCell ⟨g, i * 6 + 5, none⟩ (.slice A4 u.f4.length c4)) ok t g (xs.set i ⟨xs[i].f0, u⟩) := by
  obtain ⟨cs, hb, hr⟩ := h
  have hl : i * 6 + 6 ≤ cs.length := by rw [hr.1]; show i * 6 + 6 ≤ xs.length * 6; omega
  have hfk := hr.2 i _ (List.getElem?_eq_getElem hi)
  obtain ⟨X3, e3, X4, e4, e, hf⟩ := bi_of hfk
  have hn0 : cs[i * 6]? = some (.string xs[i].f0) := by
    have := congrArg (fun l => l[0]?) e
    simp only [List.getElem?_take_of_lt (show 0 < kBi.sz by decide), List.getElem?_drop] at this
    have h2 : cs[i * kBi.sz]? = some (.string xs[i].f0) := by simpa using this
    exact h2
  refine ⟨_, blk_cells5 hb (i * 6 + 1) (by omega) _ _ _ _ _, ?_⟩
  have h1 := (Kd.reps_set hr hi (x := ⟨xs[i].f0, u⟩) (bi_fk (x := ⟨xs[i].f0, u⟩) hu) (rfl : (blist ⟨xs[i].f0, u⟩ A3 c3 A4 c4).length = 6))
  have e2 : cs.take (i * 6 + 1) ++ [.int .i64 u.f0, .int .i64 u.f1, .string u.f2, .slice A3 u.f3.length c3, .slice A4 u.f4.length c4] ++ cs.drop (i * 6 + 1 + 5) = cs.take (i * kBi.sz) ++ blist ⟨xs[i].f0, u⟩ A3 c3 A4 c4 ++ cs.drop (i * kBi.sz + (blist ⟨xs[i].f0, u⟩ A3 c3 A4 c4).length) := by
    show _ = cs.take (i * 6) ++ _ ++ cs.drop (i * 6 + 6)
    rw [List.take_add_one, hn0]
    simp
  rw [← e2] at h1
  refine Reps.imp_ h1 (fun p c hp => FK_step hp (by simp [World.setCell]) (fun k hk hlt => ?_))
  have hn := hg k hk
  simp [World.setCell, Array.getElem?_modify, Ne.symm hn]
/-! ### a turn: a function value that is told a site's type and its node, and tells what stands there then -/
/-- What a turn comes to: a type, and its own state further. -/
def TcOut (F : Nat → Ty → Ty) (Base : Nat → Prop) (J : Nat → (Nat → Prop) → World → Prop) (k : Nat) (t : Ty) (O : Nat → Prop) (w : World) (e : Ending) (w' : World) : Prop :=
  ∃ A3 c3 A4 c4 O', e = .returned (tv (F k t) A3 c3 A4 c4) ∧ FT w' Base (F k t) A3 c3 A4 c4 ∧ J (k + 1) O' w' ∧ (∀ b, O' b → O b ∨ w.heap.size ≤ b) ∧ Kq O w w'
structure TurnC (g : FuncId) (lb : Array Value) (F : Nat → Ty → Ty) (st : List (Ty × Int)) (Base : Nat → Prop) (J : Nat → (Nat → Prop) → World → Prop) : Prop where
  enters : Enters Try.prog g
  own : ∀ k O w, J k O w → ∀ b, O b → b < w.heap.size ∧ ¬ Base b
  keep : ∀ k O w w', J k O w → Kq (fun b => ¬ (Base b ∨ O b)) w w' → J k O w'
  call : ∀ k (hk : k < st.length) O w A3 c3 A4 c4, J k O w → FT w Base (st[k]).1 A3 c3 A4 c4 → Calls Try.prog g (#[tv (st[k]).1 A3 c3 A4 c4, .int .i64 (st[k]).2] ++ lb) w (TcOut F Base J k (st[k]).1 O w)
theorem TurnC.at {g : FuncId} {lb : Array Value} {F : Nat → Ty → Ty} {st : List (Ty × Int)} {Base : Nat → Prop} {J : Nat → (Nat → Prop) → World → Prop} (h : TurnC g lb F st Base J) {k : Nat} {t : Ty} {n : Int} (hs : st[k]? = some (t, n)) {O : Nat → Prop} {w : World} {A3 A4 : Option Addr} {c3 c4 : Nat} (hJ : J k O w) (ht : FT w Base t A3 c3 A4 c4) :
    Calls Try.prog g (#[tv t A3 c3 A4 c4, .int .i64 n] ++ lb) w (TcOut F Base J k t O w) := by
  obtain ⟨hk, e⟩ := List.getElem?_eq_some_iff.1 hs
  have := h.call k hk O w A3 c3 A4 c4 hJ (by rw [e]; exact ht)
  rw [e] at this
  exact this
end Go.Proofs.Ytlenfmnkbepoiaa.PSitesTell

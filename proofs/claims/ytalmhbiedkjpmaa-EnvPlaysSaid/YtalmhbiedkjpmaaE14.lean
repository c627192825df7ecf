/-
  env: what EnvStays' walk carries: lists read off a world, the cells of a slot's box.
-/
import Derived.Test.YtalmhbiedkjpmaaE13
namespace Go.Proofs.Ytalmhbiedkjpmaa.PEnvPlays
open Go.RowKit Go.Proofs.YtalmhbiedkjpmaaW.Mine Go.Proofs.YtalmhbiedkjpmaaW.PrintWords Go.Proofs.YtalmhbiedkjpmaaW.PrintLast Go.Proofs.YtalmhbiedkjpmaaW.PrintMore
set_option linter.unusedVariables false
set_option linter.unusedSimpArgs false
def RN (w : World) (A : Option Addr) (c : Nat) (l : List ByteArray) : Prop := Kd.string.C w A l.length l ∧ l.length ≤ c
theorem RN.below {w w1 : World} {A : Option Addr} {c : Nat} {l : List ByteArray} (h : RN w A c l) (hb : Below w.heap.size w w1) : RN w1 A c l := ⟨Kd.C_below h.1 hb, h.2⟩
def RS (w : World) (A : Option Addr) (c : Nat) (l : List Sl) : Prop := kSl.C w A l.length l ∧ l.length ≤ c
theorem RS.below {w w1 : World} {A : Option Addr} {c : Nat} {l : List Sl} (h : RS w A c l) (hb : Below w.heap.size w w1) : RS w1 A c l := ⟨Kd.C_below h.1 hb, h.2⟩
theorem eleven {w : World} {g : Nat} {v0 v1 v2 v3 v4 v5 v6 v7 v8 v9 v10 : Value} {t : TypeId} (h : w.heap[g]? = some (.cells #[v0, v1, v2, v3, v4, v5, v6, v7, v8, v9, v10] t (0, 0))) :
    (w.cell? ⟨g, 0, none⟩ = some v0 ∧ w.cell? ⟨g, 1, none⟩ = some v1 ∧ w.cell? ⟨g, 2, none⟩ = some v2 ∧ w.cell? ⟨g, 3, none⟩ = some v3 ∧ w.cell? ⟨g, 4, none⟩ = some v4 ∧ w.cell? ⟨g, 5, none⟩ = some v5 ∧ w.cell? ⟨g, 6, none⟩ = some v6 ∧ w.cell? ⟨g, 7, none⟩ = some v7 ∧ w.cell? ⟨g, 8, none⟩ = some v8 ∧ w.cell? ⟨g, 9, none⟩ = some v9 ∧ w.cell? ⟨g, 10, none⟩ = some v10) ∧ (w.frozen? ⟨g, 0, none⟩ = false ∧ w.frozen? ⟨g, 1, none⟩ = false ∧ w.frozen? ⟨g, 2, none⟩ = false ∧ w.frozen? ⟨g, 3, none⟩ = false ∧ w.frozen? ⟨g, 4, none⟩ = false ∧ w.frozen? ⟨g, 5, none⟩ = false ∧ w.frozen? ⟨g, 6, none⟩ = false ∧ w.frozen? ⟨g, 7, none⟩ = false ∧ w.frozen? ⟨g, 8, none⟩ = false ∧ w.frozen? ⟨g, 9, none⟩ = false ∧ w.frozen? ⟨g, 10, none⟩ = false) ∧ g < w.heap.size :=
  ⟨⟨(blk_cell h 0).trans rfl, (blk_cell h 1).trans rfl, (blk_cell h 2).trans rfl, (blk_cell h 3).trans rfl, (blk_cell h 4).trans rfl, (blk_cell h 5).trans rfl, (blk_cell h 6).trans rfl, (blk_cell h 7).trans rfl, (blk_cell h 8).trans rfl, (blk_cell h 9).trans rfl, (blk_cell h 10).trans rfl⟩, ⟨blk_frozen h 0, blk_frozen h 1, blk_frozen h 2, blk_frozen h 3, blk_frozen h 4, blk_frozen h 5, blk_frozen h 6, blk_frozen h 7, blk_frozen h 8, blk_frozen h 9, blk_frozen h 10⟩, (Array.getElem?_eq_some_iff.1 h).1⟩
theorem small_says (l : List Sl) (hl : l.length * 160 ≤ 140737488351232) (ho : ∀ y, y ∈ l → Okv y.f1) : ∃ k r, limbecklaw34_small.f k l = some r ∧ (r = true → l.length ≤ 50) := small_told l (by omega) ho
theorem convert_u8 (b : Int) (h0 : 0 ≤ b) (h1 : b < 256) : wrap64 b = b := by unfold wrap64; omega
theorem len_n {w : World} {tp p : Option Addr} {l : List Sl} (h : IsEnv w tp p l) (n : Int) (hn : (l.length : Int) = n) : Calls Try.prog 28 #[.pointer p] w fun e w' => e = .returned (.int .i64 n) ∧ w = w' := by
  subst hn
  exact len_c h
end Go.Proofs.Ytalmhbiedkjpmaa.PEnvPlays

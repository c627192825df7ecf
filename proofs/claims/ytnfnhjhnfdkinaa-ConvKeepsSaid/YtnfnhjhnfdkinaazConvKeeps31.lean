/-
  ConvKeeps: texts of this claim, put together by a program of this session. No conditions beyond what each lemma says.
-/
import Derived.Test.YtnfnhjhnfdkinaazConvKeeps30
namespace Go.Proofs.Ytnfnhjhnfdkinaa.PConvBack
open Go.RowKit Go.Proofs.YtnfnhjhnfdkinaaW.Mine Go.Proofs.YtnfnhjhnfdkinaaW.PrintWords Go.Proofs.YtnfnhjhnfdkinaaW.PrintLast Go.Proofs.YtnfnhjhnfdkinaaW.PrintMore
attribute [local go_sem] max2_int min2_int max_two min_two max_three min_three max_four min_four
set_option linter.unusedVariables false
set_option linter.unusedSimpArgs false
abbrev zSe : Se := z86
abbrev scells (x : Se) (A3 : Option Addr) (c3 : Nat) (A4 : Option Addr) (c4 : Nat) (A8 : Option Addr) (c8 : Nat) (A9 : Option Addr) (c9 : Nat) : Array Value := #[.int .i64 x.f0.f0, .int .i64 x.f0.f1, .string x.f0.f2, .slice A3 x.f0.f3.length c3, .slice A4 x.f0.f4.length c4, .int .i64 x.f1.f0, .int .i64 x.f1.f1, .string x.f1.f2, .slice A8 x.f1.f3.length c8, .slice A9 x.f1.f4.length c9, .string x.f2.f0, .int .i64 x.f2.f1]
abbrev sv (x : Se) (A3 : Option Addr) (c3 : Nat) (A4 : Option Addr) (c4 : Nat) (A8 : Option Addr) (c8 : Nat) (A9 : Option Addr) (c9 : Nat) : Value := .agg #[.int .i64 x.f0.f0, .int .i64 x.f0.f1, .string x.f0.f2, .slice A3 x.f0.f3.length c3, .slice A4 x.f0.f4.length c4, .int .i64 x.f1.f0, .int .i64 x.f1.f1, .string x.f1.f2, .slice A8 x.f1.f3.length c8, .slice A9 x.f1.f4.length c9, .string x.f2.f0, .int .i64 x.f2.f1]
abbrev zscells : Array Value := #[.int .i64 0, .int .i64 0, .string ⟨#[]⟩, .slice none 0 0, .slice none 0 0, .int .i64 0, .int .i64 0, .string ⟨#[]⟩, .slice none 0 0, .slice none 0 0, .string ⟨#[]⟩, .int .i64 0]
/-- A seal comes, or none. -/
def SeOut (l : List Se) (n : Int) (w : World) (e : Ending) (w' : World) : Prop := Below w.heap.size w w' ∧
  ((¬ (0 ≤ n ∧ n < (l.length : Int)) ∧ e = .returned (.tuple #[sv zSe none 0 none 0 none 0 none 0, .bool false])) ∨
   (∃ i : Nat, ∃ hi : i < l.length, n = (i : Int) ∧ ∃ A3 c3 A4 c4 A8 c8 A9 c9, e = .returned (.tuple #[sv l[i] A3 c3 A4 c4 A8 c8 A9 c9, .bool true]) ∧ RT w' l[i].f0 A3 c3 A4 c4))
theorem selem {w : World} {A : Option Addr} {l : List Se} (h : kSe.C w A l.length l) (i : Nat) (hi : i < l.length) : ∃ ad A3 c3 A4 c4 A8 c8 A9 c9, A = some ad ∧ RT w l[i].f0 A3 c3 A4 c4
    ∧ w.cell? (ad.add (i * 12)) = some (.int .i64 l[i].f0.f0)
    ∧ w.cell? ⟨(ad.add (i * 12)).block, (ad.add (i * 12)).off + 1, none⟩ = some (.int .i64 l[i].f0.f1)
    ∧ w.cell? ⟨(ad.add (i * 12)).block, (ad.add (i * 12)).off + 2, none⟩ = some (.string l[i].f0.f2)
    ∧ w.cell? ⟨(ad.add (i * 12)).block, (ad.add (i * 12)).off + 3, none⟩ = some (.slice A3 l[i].f0.f3.length c3)
    ∧ w.cell? ⟨(ad.add (i * 12)).block, (ad.add (i * 12)).off + 4, none⟩ = some (.slice A4 l[i].f0.f4.length c4)
    ∧ w.cell? ⟨(ad.add (i * 12)).block, (ad.add (i * 12)).off + 5, none⟩ = some (.int .i64 l[i].f1.f0)
    ∧ w.cell? ⟨(ad.add (i * 12)).block, (ad.add (i * 12)).off + 6, none⟩ = some (.int .i64 l[i].f1.f1)
    ∧ w.cell? ⟨(ad.add (i * 12)).block, (ad.add (i * 12)).off + 7, none⟩ = some (.string l[i].f1.f2)
    ∧ w.cell? ⟨(ad.add (i * 12)).block, (ad.add (i * 12)).off + 8, none⟩ = some (.slice A8 l[i].f1.f3.length c8)
    ∧ w.cell? ⟨(ad.add (i * 12)).block, (ad.add (i * 12)).off + 9, none⟩ = some (.slice A9 l[i].f1.f4.length c9)
    ∧ w.cell? ⟨(ad.add (i * 12)).block, (ad.add (i * 12)).off + 10, none⟩ = some (.string l[i].f2.f0)
    ∧ w.cell? ⟨(ad.add (i * 12)).block, (ad.add (i * 12)).off + 11, none⟩ = some (.int .i64 l[i].f2.f1)
    := by
  obtain ⟨ad, A3, c3, A4, c4, A8, c8, A9, c9, e, h0, h1, h2, h3, h4, h5, h6, h7, h8, h9, h10, h11, g3, r3, g4, r4, _⟩ := at_T86 h (i : Int) (by omega) (by omega)
  have q : rd_T86 l (i : Int) = l[i] := getD_at _ l i hi
  rw [q] at h0 h1 h2 h3 h4 h5 h6 h7 h8 h9 h10 h11 g3 r3 g4 r4
  rw [Int.toNat_natCast] at h0 h1 h2 h3 h4 h5 h6 h7 h8 h9 h10 h11
  exact ⟨ad, A3, c3, A4, c4, A8, c8, A9, c9, e, ⟨g3, r3, g4, r4⟩, h0, h1, h2, h3, h4, h5, h6, h7, h8, h9, h10, h11⟩
set_option maxHeartbeats 4000000 in
set_option maxRecDepth 100000 in
theorem find_c (l : List Se) (n : Int) {A : Option Addr} {c : Nat} {w : World} (hl : l.length ≤ 140737488351232) (h : kSe.C w A l.length l) :
    Calls Try.prog 97 #[.slice A l.length c, .int .i64 n] w (SeOut l n w) := by
  by_cases hr : 0 ≤ n ∧ n < (l.length : Int)
  · obtain ⟨i, rfl⟩ : ∃ i : Nat, n = (i : Int) := ⟨n.toNat, by omega⟩
    have hi : i < l.length := by omega
    have i0 : (0 : Int) ≤ (i : Int) := by omega
    have i1 : (i : Int) < (l.length : Int) := by omega
    have d1 : decide ((i : Int) < 0) = false := decide_eq_false (by omega)
    have d2 : decide ((l.length : Int) ≤ (i : Int)) = false := decide_eq_false (by omega)
    have d3 : decide (l.length ≤ i) = false := decide_eq_false (by omega)
    obtain ⟨ad, A3, c3, A4, c4, A8, c8, A9, c9, hA, ht, x0, x1, x2, x3, x4, x5, x6, x7, x8, x9, x10, x11⟩ := selem h i hi
    subst hA
    have b0 := below_alloc1 w (.cells (scells l[i] A3 c3 A4 c4 A8 c8 A9 c9) 86)
    have bZ := below_alloc1 w (.cells zscells 86)
    have kN := blk_new w (.cells (scells l[i] A3 c3 A4 c4 A8 c8 A9 c9) 86)
    replace x0 := cell_up bZ x0
    replace x1 := cell_up bZ x1
    replace x2 := cell_up bZ x2
    replace x3 := cell_up bZ x3
    replace x4 := cell_up bZ x4
    replace x5 := cell_up bZ x5
    replace x6 := cell_up bZ x6
    replace x7 := cell_up bZ x7
    replace x8 := cell_up bZ x8
    replace x9 := cell_up bZ x9
    replace x10 := cell_up bZ x10
    replace x11 := cell_up bZ x11
    have BN := Aside0.mk b0
    have KN := Aside0.mk kN
    have HT := Aside0.mk (ht.below b0)
    clear hr b0 bZ kN ht
    go_enter Try.func97, Try.ntmps97
    go_wp2
    (try simp only [Exit.inBlock, Exit.then]); refine bodyPost_ret (results_ct rfl _ _ _ 86 _ (0, 0) _ rfl KN.out Try.underlying86 rfl (by kernel_rfl)) rfl ?_
    exact ⟨BN.out, .inr ⟨i, hi, rfl, A3, c3, A4, c4, A8, c8, A9, c9, rfl, HT.out⟩⟩
  · have b0 := below_alloc1 w (.cells (scells zSe none 0 none 0 none 0 none 0) 86)
    have kN := blk_new w (.cells (scells zSe none 0 none 0 none 0 none 0) 86)
    have HR := Aside0.mk hr
    have BN := Aside0.mk b0
    have KN := Aside0.mk kN
    clear b0 kN
    by_cases hn : n < 0
    · have d1 : decide (n < 0) = true := decide_eq_true hn
      clear hr hn
      go_enter Try.func97, Try.ntmps97
      go_wp2
      (try simp only [Exit.inBlock, Exit.then]); refine bodyPost_ret (results_ct rfl _ _ _ 86 _ (0, 0) _ rfl KN.out Try.underlying86 rfl (by kernel_rfl)) rfl ?_
      exact ⟨BN.out, .inl ⟨HR.out, rfl⟩⟩
    · have d1 : decide (n < 0) = false := decide_eq_false hn
      have d2 : decide ((l.length : Int) ≤ n) = true := decide_eq_true (by omega)
      clear hr hn
      go_enter Try.func97, Try.ntmps97
      go_wp2
      (try simp only [Exit.inBlock, Exit.then]); refine bodyPost_ret (results_ct rfl _ _ _ 86 _ (0, 0) _ rfl KN.out Try.underlying86 rfl (by kernel_rfl)) rfl ?_
      exact ⟨BN.out, .inl ⟨HR.out, rfl⟩⟩
end Go.Proofs.Ytnfnhjhnfdkinaa.PConvBack

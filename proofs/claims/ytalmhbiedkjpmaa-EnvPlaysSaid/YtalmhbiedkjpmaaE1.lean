/-
  env: the walk of With.
-/
import Derived.Test.YtalmhbiedkjpmaaE0
namespace Go.Proofs.Ytalmhbiedkjpmaa.PEnvPlays
open Go.RowKit Go.Proofs.YtalmhbiedkjpmaaW.Mine Go.Proofs.YtalmhbiedkjpmaaW.PrintWords Go.Proofs.YtalmhbiedkjpmaaW.PrintLast Go.Proofs.YtalmhbiedkjpmaaW.PrintMore
attribute [local go_sem] max2_int min2_int max_two min_two max_three min_three max_four min_four
set_option linter.unusedVariables false
set_option linter.unusedSimpArgs false
def WithOut (w : World) (tp : Option Addr) (x : Sl) (l : List Sl) (e : Ending) (w' : World) : Prop := ∃ q, e = .returned (.pointer q) ∧ IsEnv w' tp q (x :: l) ∧ Below w.heap.size w w'
theorem WithOut.mk {w W : World} {tp : Option Addr} {x : Sl} {l : List Sl} {q : Option Addr} {A6 A7 A8 : Option Addr} {c6 c7 c8 g : Nat} (hb : Below w.heap.size w W) (hr : RV w x.f1 A6 c6 A7 c7 A8 c8) (hl : IsEnv w tp q l) (n : Int) (hn : n = ((l.length + 1 : Nat) : Int))
    (hg : W.heap[g]? = some (.cells (ecells x.f0 x.f1 A6 c6 A7 c7 A8 c8 n q tp) 88 (0, 0))) : WithOut w tp x l (.returned (.pointer (some ⟨g, 0, none⟩))) W := by
  subst hn
  exact ⟨_, rfl, ⟨g, q, A6, c6, A7, c7, A8, c8, rfl, hg, hr.below hb, hl.below hb⟩, hb⟩
theorem nil_env {w : World} {tp : Option Addr} {l : List Sl} (h : IsEnv w tp none l) : l = [] ∧ tp = none := by
  cases l with
  | nil => rcases h with ⟨_, h⟩ | ⟨b, h, _⟩; exact ⟨rfl, h⟩; cases h
  | cons x l => obtain ⟨b, q, A6, c6, A7, c7, A8, c8, h, _⟩ := h; cases h
theorem env_types {w : World} {tp : Option Addr} {a : Addr} {l : List Sl} (h : IsEnv w tp (some a) l) : ∃ b, a = ⟨b, 0, none⟩ ∧ b < w.heap.size ∧ w.cell? ⟨b, 13, none⟩ = some (.pointer tp) := by
  cases l with
  | nil =>
    rcases h with ⟨h, _⟩ | ⟨b, h, hc⟩
    · cases h
    · cases h; exact ⟨b, rfl, (fourteen hc).2, (fourteen hc).1.2.2.2.2.2.2.2.2.2.2.2.2.2⟩
  | cons x l =>
    obtain ⟨b, q, A6, c6, A7, c7, A8, c8, h, hc, _⟩ := h
    cases h
    exact ⟨b, rfl, (fourteen hc).2, (fourteen hc).1.2.2.2.2.2.2.2.2.2.2.2.2.2⟩
set_option maxHeartbeats 4000000 in
set_option maxRecDepth 100000 in
theorem with_c {w : World} {tp p : Option Addr} {l : List Sl} (s : ByteArray) (x : Vl) {A6 A7 A8 : Option Addr} {c6 c7 c8 : Nat} (hl : IsEnv w tp p l) (hr : RV w x A6 c6 A7 c7 A8 c8) (hn : l.length < 4611686018427387904) :
    Calls Try.prog 25 #[.pointer p, .string s, vv x A6 c6 A7 c7 A8 c8] w (WithOut w tp ⟨s, x⟩ l) := by
  have b0 := below_alloc1 w (.cells (vcells x A6 c6 A7 c7 A8 c8) 52)
  have kT := blk_new w (.cells (vcells x A6 c6 A7 c7 A8 c8) 52)
  have kE := blk_new (w.alloc (.cells (vcells x A6 c6 A7 c7 A8 c8) 52)) (.cells (ecells s x A6 c6 A7 c7 A8 c8 ((l.length : Int) + 1) p none) 88)
  have bE := chain b0 (below_alloc1 (w.alloc (.cells (vcells x A6 c6 A7 c7 A8 c8) 52)) (.cells (ecells s x A6 c6 A7 c7 A8 c8 ((l.length : Int) + 1) p none) 88))
  rw [World.size_alloc] at kE
  obtain ⟨⟨p0, p1, p2, p3, p4, p5, p6, p7, p8, p9⟩, _, lp⟩ := ten kT
  have hn1 : IntKind.i64.wrap ((l.length : Int) + 1) = (l.length : Int) + 1 := IntWalk.i64_in _ (by omega)
  have KE := Aside0.mk kE
  have kE2 := blk_new (w.alloc (.cells (vcells x A6 c6 A7 c7 A8 c8) 52)) (.cells (ecells s x A6 c6 A7 c7 A8 c8 ((l.length : Int) + 1) p tp) 88)
  rw [World.size_alloc] at kE2
  have KE2 := Aside0.mk kE2
  have BE2 := Aside0.mk (chain b0 (below_alloc1 (w.alloc (.cells (vcells x A6 c6 A7 c7 A8 c8) 52)) (.cells (ecells s x A6 c6 A7 c7 A8 c8 ((l.length : Int) + 1) p tp) 88)))
  clear kE kT kE2
  cases p with
  | none =>
    go_enter Try.func25, Try.ntmps25
    go_wp2_with fail
    go_region_held3 (fun w' => Below (w.heap.size + 1) (w.alloc (.cells (vcells x A6 c6 A7 c7 A8 c8) 52)) w' ∧ w'.cell? ⟨w.heap.size, 0, none⟩ = some (.int .i64 x.f0) ∧ w'.cell? ⟨w.heap.size, 1, none⟩ = some (.int .i64 x.f1) ∧ w'.cell? ⟨w.heap.size, 2, none⟩ = some (.int .i64 x.f2) ∧ w'.cell? ⟨w.heap.size, 3, none⟩ = some (.bool x.f3) ∧ w'.cell? ⟨w.heap.size, 4, none⟩ = some (.string x.f4) ∧ w'.cell? ⟨w.heap.size, 5, none⟩ = some (.string x.f5.f0) ∧ w'.cell? ⟨w.heap.size, 6, none⟩ = some (.int .i64 x.f5.f1) ∧ w'.cell? ⟨w.heap.size, 7, none⟩ = some (.slice A6 x.f6.length c6) ∧ w'.cell? ⟨w.heap.size, 8, none⟩ = some (.slice A7 x.f7.length c7) ∧ w'.cell? ⟨w.heap.size, 9, none⟩ = some (.slice A8 x.f8.length c8))
      ((refine and_of (fun hB_ => ⟨(hB_.cell (Nat.lt_succ_self _)).trans p0, (hB_.cell (Nat.lt_succ_self _)).trans p1, (hB_.cell (Nat.lt_succ_self _)).trans p2, (hB_.cell (Nat.lt_succ_self _)).trans p3, (hB_.cell (Nat.lt_succ_self _)).trans p4, (hB_.cell (Nat.lt_succ_self _)).trans p5, (hB_.cell (Nat.lt_succ_self _)).trans p6, (hB_.cell (Nat.lt_succ_self _)).trans p7, (hB_.cell (Nat.lt_succ_self _)).trans p8, (hB_.cell (Nat.lt_succ_self _)).trans p9⟩) ?_; first | (with_reducible exact (Below.refl _ _).drew) | (with_reducible exact And.left (by assumption)) | (exact ((Below.refl _ _).alloc (by simp) _).drew) | (exact (Below.alloc (And.left (by assumption)) (by simp) _)) | (exact (Below.alloc (And.left (by assumption)) (by simp) _).drew)))
      (first
        | (go_at_call 28; refine (len_c (hl.below (b0.trans (Below.mono (And.left (by assumption)) (Nat.le_succ _))))).mono ?_; rintro e w5 ⟨rfl, rfl⟩)
        | fail)
    all_goals
      rename_i hH
      clear hH
      obtain ⟨rfl, rfl⟩ := nil_env hl
      go_wp2
      go_ret
      exact WithOut.mk (x := ⟨s, x⟩) bE.drew hr hl _ rfl (blk_drew KE.out)
  | some a =>
    obtain ⟨b, rfl, hbl, ht⟩ := env_types hl
    have htE := cell_up bE ht
    obtain ⟨_, hE⟩ := fourteen KE.out
    have ftE := blk_frozen KE.out 13
    have ctE := (blk_cell KE.out 13).trans (show _ = some (Value.pointer none) from rfl)
    go_enter Try.func25, Try.ntmps25
    go_wp2_with fail
    go_region_held3 (fun w' => Below (w.heap.size + 1) (w.alloc (.cells (vcells x A6 c6 A7 c7 A8 c8) 52)) w' ∧ w'.cell? ⟨w.heap.size, 0, none⟩ = some (.int .i64 x.f0) ∧ w'.cell? ⟨w.heap.size, 1, none⟩ = some (.int .i64 x.f1) ∧ w'.cell? ⟨w.heap.size, 2, none⟩ = some (.int .i64 x.f2) ∧ w'.cell? ⟨w.heap.size, 3, none⟩ = some (.bool x.f3) ∧ w'.cell? ⟨w.heap.size, 4, none⟩ = some (.string x.f4) ∧ w'.cell? ⟨w.heap.size, 5, none⟩ = some (.string x.f5.f0) ∧ w'.cell? ⟨w.heap.size, 6, none⟩ = some (.int .i64 x.f5.f1) ∧ w'.cell? ⟨w.heap.size, 7, none⟩ = some (.slice A6 x.f6.length c6) ∧ w'.cell? ⟨w.heap.size, 8, none⟩ = some (.slice A7 x.f7.length c7) ∧ w'.cell? ⟨w.heap.size, 9, none⟩ = some (.slice A8 x.f8.length c8))
      ((refine and_of (fun hB_ => ⟨(hB_.cell (Nat.lt_succ_self _)).trans p0, (hB_.cell (Nat.lt_succ_self _)).trans p1, (hB_.cell (Nat.lt_succ_self _)).trans p2, (hB_.cell (Nat.lt_succ_self _)).trans p3, (hB_.cell (Nat.lt_succ_self _)).trans p4, (hB_.cell (Nat.lt_succ_self _)).trans p5, (hB_.cell (Nat.lt_succ_self _)).trans p6, (hB_.cell (Nat.lt_succ_self _)).trans p7, (hB_.cell (Nat.lt_succ_self _)).trans p8, (hB_.cell (Nat.lt_succ_self _)).trans p9⟩) ?_; first | (with_reducible exact (Below.refl _ _).drew) | (with_reducible exact And.left (by assumption)) | (exact ((Below.refl _ _).alloc (by simp) _).drew) | (exact (Below.alloc (And.left (by assumption)) (by simp) _)) | (exact (Below.alloc (And.left (by assumption)) (by simp) _).drew)))
      (first
        | (go_at_call 28; refine (len_c (hl.below (b0.trans (Below.mono (And.left (by assumption)) (Nat.le_succ _))))).mono ?_; rintro e w5 ⟨rfl, rfl⟩)
        | fail)
    all_goals
      rename_i hH
      clear hH
      have BE := Aside0.mk bE
      clear bE b0 p0 p1 p2 p3 p4 p5 p6 p7 p8 p9 lp
      go_wp2
      go_ret
      exact WithOut.mk (x := ⟨s, x⟩) BE2.out.drew hr hl _ rfl (blk_drew KE2.out)
end Go.Proofs.Ytalmhbiedkjpmaa.PEnvPlays

/-
  ctx: the walk of With.
-/
import Derived.Test.YtalmhbiedkjpmaaC0
namespace Go.Proofs.Ytalmhbiedkjpmaa.PCtxPlays
open Go.RowKit Go.Proofs.YtalmhbiedkjpmaaW.Mine Go.Proofs.YtalmhbiedkjpmaaW.PrintWords Go.Proofs.YtalmhbiedkjpmaaW.PrintLast Go.Proofs.YtalmhbiedkjpmaaW.PrintMore
attribute [local go_sem] max2_int min2_int max_two min_two max_three min_three max_four min_four
set_option linter.unusedVariables false
set_option linter.unusedSimpArgs false
theorem and_of {A B : Prop} (f : A → B) (a : A) : A ∧ B := ⟨a, f a⟩
def WithOut (w : World) (x : Bd) (l : List Bd) (e : Ending) (w' : World) : Prop := ∃ q, e = .returned (.pointer q) ∧ IsCtx w' q (x :: l) ∧ Below w.heap.size w w'
theorem WithOut.mk {w W : World} {x : Bd} {l : List Bd} {q : Option Addr} {A3 A4 : Option Addr} {c3 c4 : Nat} (hb : Below w.heap.size w W) (hr : RT w x.f1 A3 c3 A4 c4) (hl : IsCtx w q l) (n : Int) (hn : n = ((l.length + 1 : Nat) : Int)) (g : Nat) (hg : g = W.heap.size) :
    WithOut w x l (.returned (.pointer (some ⟨g, 0, none⟩))) (W.alloc (.cells (ccells x A3 c3 A4 c4 q n) 75)) := by
  subst hn hg
  have hb2 := hb.alloc hb.size (.cells (ccells x A3 c3 A4 c4 q ((l.length + 1 : Nat) : Int)) 75)
  exact ⟨_, rfl, ⟨W.heap.size, q, A3, c3, A4, c4, rfl, blk_new W _, hr.below hb2, hl.below hb2⟩, hb2⟩
theorem WithOut.drew {w W : World} {x : Bd} {l : List Bd} {e : Ending} (h : WithOut w x l e W) : WithOut w x l e W.drew := by
  obtain ⟨q, e, hc, hb⟩ := h
  exact ⟨q, e, hc.below (Below.refl _ _).drew, hb.drew⟩
set_option maxHeartbeats 4000000 in
set_option maxRecDepth 100000 in
theorem with_c {w : World} {p : Option Addr} {l : List Bd} (s : ByteArray) (t : Ty) {A3 A4 : Option Addr} {c3 c4 : Nat} (hl : IsCtx w p l) (hr : RT w t A3 c3 A4 c4) (hn : l.length < 4611686018427387904) :
    Calls Try.prog 12 #[.pointer p, .string s, tv t A3 c3 A4 c4] w (WithOut w ⟨s, t⟩ l) := by
  have b0 := below_alloc1 w (.cells #[.int .i64 t.f0, .int .i64 t.f1, .string t.f2, .slice A3 t.f3.length c3, .slice A4 t.f4.length c4] 31)
  have kT := blk_new w (.cells #[.int .i64 t.f0, .int .i64 t.f1, .string t.f2, .slice A3 t.f3.length c3, .slice A4 t.f4.length c4] 31)
  obtain ⟨⟨p0, p1, p2, p3, p4⟩, _, lp⟩ := five kT
  have hn1 : IntKind.i64.wrap ((l.length : Int) + 1) = (l.length : Int) + 1 := IntWalk.i64_in _ (by omega)
  go_enter Try.func12, Try.ntmps12
  go_wp2_with fail
  go_region_held3 (fun w' => Below (w.heap.size + 1) (w.alloc (.cells #[.int .i64 t.f0, .int .i64 t.f1, .string t.f2, .slice A3 t.f3.length c3, .slice A4 t.f4.length c4] 31)) w' ∧ w'.cell? ⟨w.heap.size, 0, none⟩ = some (.int .i64 t.f0) ∧ w'.cell? ⟨w.heap.size, 1, none⟩ = some (.int .i64 t.f1) ∧ w'.cell? ⟨w.heap.size, 2, none⟩ = some (.string t.f2) ∧ w'.cell? ⟨w.heap.size, 3, none⟩ = some (.slice A3 t.f3.length c3) ∧ w'.cell? ⟨w.heap.size, 4, none⟩ = some (.slice A4 t.f4.length c4))
    ((refine and_of (fun hB_ => ⟨(hB_.cell (Nat.lt_succ_self _)).trans p0, (hB_.cell (Nat.lt_succ_self _)).trans p1, (hB_.cell (Nat.lt_succ_self _)).trans p2, (hB_.cell (Nat.lt_succ_self _)).trans p3, (hB_.cell (Nat.lt_succ_self _)).trans p4⟩) ?_; first | (with_reducible exact (Below.refl _ _).drew) | (with_reducible exact And.left (by assumption)) | (exact ((Below.refl _ _).alloc (by simp) _).drew) | (exact (Below.alloc (And.left (by assumption)) (by simp) _)) | (exact (Below.alloc (And.left (by assumption)) (by simp) _).drew)))
    (first
      | (go_at_call 17; refine (len_c (hl.below (b0.trans (Below.mono (And.left (by assumption)) (Nat.le_succ _))))).mono ?_; rintro e w5 ⟨rfl, rfl⟩)
      | fail)
  all_goals
    rename_i hH
    clear hH
    go_wp2
    go_ret
    exact (WithOut.mk (x := ⟨s, t⟩) b0 hr hl ((l.length : Int) + 1) rfl (w.heap.size + 1) (by simp)).drew
end Go.Proofs.Ytalmhbiedkjpmaa.PCtxPlays

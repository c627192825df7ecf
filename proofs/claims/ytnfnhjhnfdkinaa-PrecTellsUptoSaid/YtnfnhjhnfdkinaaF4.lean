/-
  prec: the walk of Cut.
-/
import Derived.Test.YtnfnhjhnfdkinaaF3
namespace Go.Proofs.Ytnfnhjhnfdkinaa.PPrecTells
open Go.RowKit Go.Proofs.YtnfnhjhnfdkinaaW.Mine Go.Proofs.YtnfnhjhnfdkinaaW.PrintWords Go.Proofs.YtnfnhjhnfdkinaaW.PrintLast Go.Proofs.YtnfnhjhnfdkinaaW.PrintMore
attribute [local go_sem] max2_int min2_int max_two min_two max_three min_three max_four min_four
set_option linter.unusedVariables false
set_option linter.unusedSimpArgs false
/-- What Cut answers. -/
def cutO (x : Ty) (k : Int) : Option Ty := if k < 0 then none else if 0 ≤ (cut x k).2 then none else some (cut x k).1
def COut (w : World) (ok : Nat → Prop) (o : Option Ty) (e : Ending) (w' : World) : Prop :=
  Below w.heap.size w w' ∧ match o with
  | none => e = .returned (.tuple #[tv z25 none 0 none 0, .bool false])
  | some u => ∃ A3 c3 A4 c4, e = .returned (.tuple #[tv u A3 c3 A4 c4, .bool true]) ∧ FT w' (fun k => ok k ∨ w.heap.size ≤ k) u A3 c3 A4 c4
theorem COut.no {w w' : World} {ok : Nat → Prop} {o : Option Ty} (hb : Below w.heap.size w w') (ho : o = none) : COut w ok o (.returned (.tuple #[tv z25 none 0 none 0, .bool false])) w' := by
  subst ho; exact ⟨hb, rfl⟩
theorem COut.yes {w w' : World} {ok : Nat → Prop} {o : Option Ty} {u : Ty} {A3 A4 : Option Addr} {c3 c4 : Nat} (hb : Below w.heap.size w w') (ho : o = some u) (hf : FT w' (fun k => ok k ∨ w.heap.size ≤ k) u A3 c3 A4 c4) : COut w ok o (.returned (.tuple #[tv u A3 c3 A4 c4, .bool true])) w' := by
  subst ho; exact ⟨hb, A3, c3, A4, c4, rfl, hf⟩
theorem three4 (w : World) (x : Ty) (A3 : Option Addr) (c3 : Nat) (A4 : Option Addr) (c4 : Nat) (k : Int) (zs : Array Value) : let W := (((w.alloc (.cells #[.int .i64 x.f0, .int .i64 x.f1, .string x.f2, .slice A3 x.f3.length c3, .slice A4 x.f4.length c4] 25)).alloc (.cells #[.int .i64 k] 3)).alloc (.cells zs 25))
    (W.heap[w.heap.size]? = some (.cells #[.int .i64 x.f0, .int .i64 x.f1, .string x.f2, .slice A3 x.f3.length c3, .slice A4 x.f4.length c4] 25 (0, 0)) ∧ W.heap[w.heap.size + 1]? = some (.cells #[.int .i64 k] 3 (0, 0)) ∧ W.heap[w.heap.size + 1 + 1]? = some (.cells zs 25 (0, 0))) ∧ Below w.heap.size w W ∧ W.heap.size = w.heap.size + 1 + 1 + 1 := by
  intro W
  have kB := blk_new (w.alloc (.cells #[.int .i64 x.f0, .int .i64 x.f1, .string x.f2, .slice A3 x.f3.length c3, .slice A4 x.f4.length c4] 25)) (.cells #[.int .i64 k] 3)
  have kC := blk_new ((w.alloc (.cells #[.int .i64 x.f0, .int .i64 x.f1, .string x.f2, .slice A3 x.f3.length c3, .slice A4 x.f4.length c4] 25)).alloc (.cells #[.int .i64 k] 3)) (.cells zs 25)
  simp only [World.size_alloc] at kB kC
  exact ⟨⟨blk_alloc (blk_alloc (blk_new w _) _) _, blk_alloc kB _, kC⟩, chain (chain (below_alloc2 _ _) (below_alloc2 _ _)) (below_alloc2 _ _), by simp only [W, World.size_alloc]⟩
theorem below5 {w0 w : World} {g : Nat} (h : Below w0.heap.size w0 w) (hg : w0.heap.size ≤ g) (v0 v1 v2 v3 v4 : Value) : Below w0.heap.size w0 (((((w.setCell ⟨g, 0, none⟩ v0).setCell ⟨g, 1, none⟩ v1).setCell ⟨g, 2, none⟩ v2).setCell ⟨g, 3, none⟩ v3).setCell ⟨g, 4, none⟩ v4) :=
  below_set (below_set (below_set (below_set (below_set h hg) hg) hg) hg) hg
set_option maxHeartbeats 8000000 in
set_option maxRecDepth 100000 in
theorem Cut_c (x : Ty) (hsm : Sm x) (ok0 : Nat → Prop) (A3 : Option Addr) (c3 : Nat) (A4 : Option Addr) (c4 : Nat) (k : Int) (hk : k ≤ 9223372036854775807) (w : World) (ha0 : FT w ok0 x A3 c3 A4 c4) :
    Calls Try.prog 16 #[tv x A3 c3 A4 c4, .int .i64 k] w (COut w ok0 (cutO x k)) := by
  have ha := ha0.bound
  have hq : cutO x k = if k < 0 then none else if 0 ≤ (cut x k).2 then none else some (cut x k).1 := rfl
  generalize cutO x k = o at hq ⊢
  obtain ⟨⟨kA, kG, kR⟩, b0, sz⟩ := three4 w x A3 c3 A4 c4 k #[.int .i64 0, .int .i64 0, .string ⟨#[]⟩, .slice none 0 0, .slice none 0 0]
  obtain ⟨⟨p0, p1, p2, p3, p4⟩, _, la⟩ := five kA
  obtain ⟨⟨r0, r1, r2, r3, r4⟩, ⟨s0, s1, s2, s3, s4⟩, lr⟩ := five kR
  obtain ⟨g0, g1, lg⟩ := one kG
  by_cases h1 : k < 0
  · rw [if_pos h1] at hq
    have e1 : decide (k < 0) = true := decide_eq_true h1
    have HQ := Aside0.mk hq
    clear hq
    go_enter Try.func16, Try.ntmps16
    go_wp2
    (try simp only [Exit.inBlock, Exit.then])
    refine bodyPost_ret (results_ct rfl _ _ _ 25 _ (0, 0) _ rfl kR Try.underlying25 rfl (by kernel_rfl)) rfl ?_
    exact COut.no b0 HQ.out
  rw [if_neg h1] at hq
  have e1 : decide (k < 0) = false := decide_eq_false h1
  have HQ := Aside0.mk hq
  clear hq
  go_enter Try.func16, Try.ntmps16
  go_wp2_with fail
  go_call (cut_c _ x (Nat.lt_succ_self _) hsm (fun j => ok0 j ∧ j < w.heap.size) A3 c3 A4 c4 (w.heap.size + 1) k _ (ha.below b0) (fun j hj e => by have := hj.2; omega) kG hk) as e w1 ⟨hq1, hg1, C3, g3, C4, g4, he, hft⟩
  subst he
  have b1 : Below w.heap.size w w1 := b0.trans (hq1.below (by omega) (fun j hj e => by omega))
  replace kR := hq1.blk kR (by omega)
  have hft2 : FT w1 (fun j => (ok0 j ∧ j < w.heap.size) ∨ w.heap.size + 1 + 1 < j) (cut x k).1 C3 g3 C4 g4 := hft.mono (fun j hj => by rcases hj with hj | hj; exact .inl hj; exact .inr (by omega))
  generalize hr1 : (cut x k).1 = u at HQ hft2 ⊢
  generalize hr2 : (cut x k).2 = k2 at HQ hg1 ⊢
  clear hft hq1 p0 p1 p2 p3 p4 la r0 r1 r2 r3 r4 s0 s1 s2 s3 s4 lr g0 g1 lg kA kG sz e1
  obtain ⟨⟨r0, r1, r2, r3, r4⟩, ⟨s0, s1, s2, s3, s4⟩, lr⟩ := five kR
  obtain ⟨g0, g1, lg⟩ := one hg1
  by_cases h2 : 0 ≤ k2
  · have e2 : decide (0 ≤ k2) = true := decide_eq_true h2
    go_wp2
    (try simp only [Exit.inBlock, Exit.then])
    refine bodyPost_ret (results_ct rfl _ _ _ 25 _ (0, 0) _ rfl (blk_alloc (stored' kR _ _ _ _ _) _) Try.underlying25 rfl (by kernel_rfl)) rfl ?_
    exact COut.no (chain (below5 b1 (by omega) _ _ _ _ _) (below_alloc2 _ _)) (by rw [HQ.out, if_pos h2])
  · have e2 : decide (0 ≤ k2) = false := decide_eq_false h2
    go_wp2
    (try simp only [Exit.inBlock, Exit.then])
    refine bodyPost_ret (results_ct rfl _ _ _ 25 _ (0, 0) _ rfl (blk_alloc (stored' kR _ _ _ _ _) _) Try.underlying25 rfl (by kernel_rfl)) rfl ?_
    exact COut.yes (chain (below5 b1 (by omega) _ _ _ _ _) (below_alloc2 _ _)) (by rw [HQ.out, if_neg (by omega)]) (((hft2.set5 (fun j hj => by rcases hj with hj | hj; (have := hj.2; omega); omega) _ _ _ _ _).below (below_alloc2 _ _)).mono (fun j hj => by rcases hj with hj | hj; exact .inl hj.1; exact .inr (by omega)))
end Go.Proofs.Ytnfnhjhnfdkinaa.PPrecTells

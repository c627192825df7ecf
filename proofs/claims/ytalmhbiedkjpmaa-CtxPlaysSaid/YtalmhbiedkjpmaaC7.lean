/-
  ctx: the walks of slices.AppendSeq, slices.Collect over a context's iterator, and of All.
-/
import Derived.RangeFuncBox
import Derived.Maps.AppendAt
import Derived.Deep.AppendLies
import Derived.Test.YtalmhbiedkjpmaaC6
namespace Go.Proofs.Ytalmhbiedkjpmaa.PCtxPlays
open Go.RowKit Go.Shelf Go.Proofs.YtalmhbiedkjpmaaW.Mine Go.Proofs.YtalmhbiedkjpmaaW.PrintWords Go.Proofs.YtalmhbiedkjpmaaW.PrintLast Go.Proofs.YtalmhbiedkjpmaaW.PrintMore
attribute [local go_sem] Oper.semAt_some
set_option linter.unusedVariables false
set_option linter.unusedSimpArgs false
/-- What collecting answers. -/
def SeqOut {w0 : World} (w : World) (xs : List (Ent w0)) (e : Ending) (w' : World) : Prop := ∃ v, e = .returned v ∧ w'.ownsRow w.heap.size 33 6 v xs.length (flat xs) ∧ Below w.heap.size w w'
/-- Between two rounds; the frame of a round. -/
def SI {w0 : World} (w : World) (pre : List (Ent w0)) (W : World) : Prop := (∃ v, Boxed W w.heap.size 22 v ∧ W.ownsRow w.heap.size 33 6 v pre.length (flat pre) ∧ True) ∧ Below w.heap.size w W
def SA {w0 : World} (w : World) (Bn : Nat) (x : Ent w0) (a' : Act) (W : World) : Prop := ∃ Bx, w.heap.size < Bx ∧ W.heap[Bx]? = some (.cells #[.string x.x.f0, .int .i64 x.x.f1.f0, .int .i64 x.x.f1.f1, .string x.x.f1.f2, .slice x.A3 x.x.f1.f3.length x.c3, .slice x.A4 x.x.f1.f4.length x.c4] 33 (0, 0)) ∧
  a' = { tmps := #[.slice none 0 0, .func (.func 48) #[] #[.pointer (some ⟨Bn, 0, none⟩)], .pointer (some ⟨w.heap.size, 0, none⟩), undef, .slice none 0 0, .pointer (some ⟨Bx, 0, none⟩), .func (.func 48) #[] #[.pointer (some ⟨Bn, 0, none⟩)], x.val, undef, undef, undef, undef, undef], defers := [] }
theorem SA.own {w0 : World} (w : World) (Bn B : Nat) (x : Ent w0) (a' : Act) : OwnFrom B (fun (_ : Unit) W => SA w Bn x a' W) :=
  Own.from (fun st X Y row hs hg hr => by
    obtain ⟨Bx, h1, h2, h3⟩ := hs
    exact ⟨Bx, h1, kept_blk h2 hg hr, h3⟩) _
theorem news_block {w : World} {B : Nat} {cs : Array Value} {t : TypeId} (hb : w.heap[B]? = some (.cells cs t (0, 0))) : ∀ j u, cs.toList[j]? = some u → w.cell? ((⟨B, 0, none⟩ : Addr).add j) = some u := World.news_of_block hb
theorem appended {W w1 : World} {n₀ B : Nat} {t e : TypeId} {size : Nat} {v v' : Value} {k m : Nat} {xs ys : List Value} {tmp : Obj}
    (hv : Boxed W B t v) (hte : t ≠ e) (hrow : W.ownsRow n₀ e size v k xs) (hn₀ : n₀ ≤ W.heap.size) (hB : n₀ ≤ B)
    (hown' : w1.ownsRow n₀ e size v' m ys) (hgrow : (W.alloc tmp).grownBy w1 v.ownBlock) :
    Boxed w1 B t v ∧ Boxed (w1.setCell ⟨B, 0, none⟩ v') B t v' ∧ (w1.setCell ⟨B, 0, none⟩ v').ownsRow n₀ e size v' m ys ∧ KeepsOthers W (w1.setCell ⟨B, 0, none⟩ v') ∧ Below n₀ W (w1.setCell ⟨B, 0, none⟩ v') := Boxed.appended hv hte hrow hn₀ hB hown' hgrow
theorem flat_snoc {w0 : World} (pre : List (Ent w0)) (x : Ent w0) : flat (pre ++ [x]) = flat pre ++ x.cells := by simp [flat]
set_option maxRecDepth 100000 in
set_option maxHeartbeats 2000000 in
theorem appseq_c {w0 w : World} {p : Option Addr} {xs : List (Ent w0)} (hL : IsE w0 p xs) (hn : xs.length ≤ 1000000) (Bn : Nat) (hB : Below w0.heap.size w0 w) (hBn : Bn < w.heap.size) (hc : w.cell? ⟨Bn, 0, none⟩ = some (.pointer p)) :
    Calls Try.prog 49 #[.slice none 0 0, .func (.func 48) #[] #[.pointer (some ⟨Bn, 0, none⟩)]] w (SeqOut w xs) := by
  refine (callsIn_wide (n := 3)).1 ?_
  refine callsIn_of_wp_marks Try.func49 rfl trivial ?_ rfl
  simp only [Try.ntmps49, List.size_toArray, List.length_cons, List.length_nil, Nat.reduceAdd, Nat.reduceSub, Array.replicate_succ, Array.replicate_zero, List.push_toArray, List.append_toArray, List.nil_append, List.cons_append]
  obtain ⟨i0, hi, hz0, hz1, hz2⟩ := info_parts info33
  gi_wp2
  have bO := Boxed.new w 22 (.slice none 0 0)
  have hB0 := below_alloc1 w (.cells #[.slice none 0 0] 22)
  have hcx := cell_up hB0 hc
  have hlen : ((xs.length : Nat) : Int) ≤ 9223372036854775807 := by omega
  refine wpIn_rangeFunc_ownH (F := Fence.wide) rfl (by decide) (gf := 48) (lb := #[.pointer (some ⟨Bn, 0, none⟩)]) rfl trivial (enters_of Try.func48 (by kernel_rfl) rfl)
    (last_stops 2 (by decide) hlen hL _ Bn (chain hB hB0) (by simp; omega) hcx) belowK_t (belowK_b (by have := hB.size; simp; omega)) (Below.refl _ _) (fun _ => rfl)
    (SI w) (fun _ _ _ => False) (OwnFrom.and (Own.from (holdsRow_own w.heap.size w.heap.size 22 33 6 (fun pre => pre.length) flat (fun _ _ => True)) _) (ownFrom_below (Nat.le_refl _) (by simp)))
    (fun _ _ _ _ _ hs _ _ => hs)
    ⟨⟨_, bO, World.ownsRow_nil _ _ _ _, trivial⟩, hB0⟩
    (SA w Bn) (fun x a' => SA.own w Bn _ x a') ?assign ?body ?done ?stop
  case assign =>
    rintro l pre x W K ⟨⟨v, hv, hrow, _⟩, hB1⟩ hK
    dsimp only [Ent.val]
    gi_wp2
    exact hK _ _ ((KeepsOthers.alloc _ _).from _) ((Below.refl _ W).alloc (by have := hB.size; have := hB1.size; omega) _) ⟨⟨v, hv.alloc _, hrow.alloc _, trivial⟩, hB1.alloc hB1.size _⟩ ⟨W.heap.size, hv.lt, blk_new W _, rfl⟩
  case body =>
    rintro l pre x a' W hl2 ⟨r, hr⟩ ⟨⟨v, hv, hrow, _⟩, hB1⟩ ⟨Bx, hBx, bX, rfl⟩ hlt
    obtain ⟨⟨x0, x1, x2, x3, x4, x5⟩, lx⟩ := six bX
    have hcv := hv.cell
    have hlt' : pre.length < xs.length := hlt
    clear hr hl2
    dsimp only [Ent.val]
    gi_wp2_with (gi_at_builtin; refine wpListIn_append_own _ rfl _ _ 22 rfl w.heap.size 33 i0 _ 6 96 Try.underlying22 hi hz0 hz1 hz2 rfl (by decide) _ _ _ rfl (hrow.alloc _) ⟨W.heap.size, 0, none⟩ 1 1 x.cells rfl rfl (news_block (blk_new W (.cells #[.string x.x.f0, .int .i64 x.x.f1.f0, .int .i64 x.x.f1.f1, .string x.x.f1.f2, .slice x.A3 x.x.f1.f3.length x.c3, .slice x.A4 x.x.f1.f4.length x.c4] 33))) (by simp [Ent.cells, Value.oneCell']) (by unfold maxLen; omega) (by omega) (by have := hB1.size; simp; omega) ?_; intro v' w1 hown' hgrow _; obtain ⟨g', cap', rfl⟩ := ownsRow_succ hown'; obtain ⟨hv1, hv2, hr2, hk2, hb2⟩ := hv.appended (by decide) hrow hB1.size (Nat.le_refl _) hown' hgrow; have hc1 := hv1.cell; have hf1 := hv1.frozen)
    exact ⟨hk2.from _, hb2.mono hB.size, ⟨_, hv2, by rw [flat_snoc]; simpa using hr2, trivial⟩, hB1.trans hb2⟩
  case done =>
    rintro D ys W hD rfl ⟨⟨v, hv, hrow, _⟩, hB1⟩ hK
    have hcv := hv.cell
    gi_wp2
    refine ⟨by simp, .inl ⟨_, _, rfl, run_takeDeferred hK, ?_⟩⟩
    exact ⟨_, results_tmp rfl _ _ _, v, rfl, ownsRow_putObj hrow _ hK rfl, below_put hB1 (by simp at hD; omega) hK rfl rfl⟩
  case stop =>
    rintro D c pre W _ _ h _
    exact h.elim
theorem collect_c {w0 w : World} {p : Option Addr} {xs : List (Ent w0)} (hL : IsE w0 p xs) (hn : xs.length ≤ 1000000) (Bn : Nat) (hB : Below w0.heap.size w0 w) (hBn : Bn < w.heap.size) (hc : w.cell? ⟨Bn, 0, none⟩ = some (.pointer p)) :
    Calls Try.prog 40 #[.func (.func 48) #[] #[.pointer (some ⟨Bn, 0, none⟩)]] w (SeqOut w xs) := by
  go_enter Try.func40, Try.ntmps40
  go_wp2_with fail
  refine (appseq_c hL hn Bn hB hBn hc).mono ?_
  rintro e w1 ⟨v, rfl, hown, hb⟩
  go_wp2
  go_ret
  exact ⟨v, rfl, hown, hb⟩
/-- What a row that one owns reads as. -/
theorem row_reads {w0 w : World} {g : Nat} {xs : List (Ent w0)} {r : List Value} (h : RowB w g xs r) (hn : xs.length ≤ 9223372036854775807) (hb : Below w0.heap.size w0 w) : kBd.C w (some ⟨g, 0, none⟩) xs.length (xs.map (·.x)) := by
  refine ⟨by simp, hn, fun hp => ⟨⟨g, 0, none⟩, rfl, fun j p hj => ?_⟩⟩
  rw [List.getElem?_map] at hj
  obtain ⟨x, hx, rfl⟩ := Option.map_eq_some_iff.1 hj
  obtain ⟨hlt, hxe⟩ := List.getElem?_eq_some_iff.1 hx
  have hr := x.h.below hb
  refine ⟨x.cells, rfl, k33_mk w x.x hr.1 hr.2.1 hr.2.2.1 hr.2.2.2, fun k u hu => ?_⟩
  have hk : k < 6 := (List.getElem?_eq_some_iff.1 hu).1
  have hadd : (⟨g, 0, none⟩ : Addr).add (j * 6 + k) = ⟨g, j * 6 + k, none⟩ := by unfold Addr.add; split <;> simp_all
  show w.cell? ((⟨g, 0, none⟩ : Addr).add (j * 6 + k)) = some u
  rw [hadd, blk_cell h (j * 6 + k)]
  have := flat_get xs r j k hlt hk
  rw [hxe, hu] at this
  simpa using this
theorem rev_nil (w : World) : Calls Try.prog 41 #[.slice none 0 0] w fun e w' => e = .returned (.tuple #[]) ∧ w = w' := by
  go_enter Try.func41, Try.ntmps41
  go_wp2_with fail
  go_loopg [2, 3] 0 (fun kq v2 v3 w' => v2 = .int .i64 0 ∧ v3 = .int .i64 (-1) ∧ w = w')
  case atStart => exact ⟨rfl, rfl, rfl⟩
  case round =>
    obtain ⟨rfl, rfl, rfl⟩ := hrel
    go_wp2
    go_end0
    exact ⟨rfl, rfl⟩
/-- What All answers: all, the first name first. -/
def AllOut (w : World) (l : List Bd) (e : Ending) (w' : World) : Prop := ∃ A c, e = .returned (.slice A l.length c) ∧ l.length ≤ c ∧ kBd.C w' A l.length l.reverse ∧ Below w.heap.size w w'
set_option maxRecDepth 100000 in
theorem all_c {w : World} {p : Option Addr} {l : List Bd} (hl : IsCtx w p l) (hn : l.length ≤ 1000000) : Calls Try.prog 19 #[.pointer p] w (AllOut w l) := by
  obtain ⟨es, rfl, hL⟩ := hl.ents
  have hn' : es.length ≤ 1000000 := by simpa using hn
  go_enter Try.func19, Try.ntmps19
  go_wp2_with fail
  refine (last_c p w).mono ?_
  rintro e w1 ⟨rfl, rfl⟩
  have b0 := below_alloc1 w (.cells #[.pointer p] 25)
  go_wp2_with fail
  refine (collect_c hL hn' w.heap.size b0 (by simp) (cell_new_l w (.pointer p) 25)).mono ?_
  rintro e w2 ⟨v, rfl, hown, hb⟩
  have b2 := chain b0 hb
  rcases hown.2 with ⟨rfl, h0⟩ | ⟨g, cap, cur, rfl, hge, hblk, hcap, hmax, hsz, htk⟩
  · have he : es = [] := List.eq_nil_of_length_eq_zero h0
    subst he
    go_wp2_with fail
    refine (rev_nil w2).mono ?_
    rintro e w3 ⟨rfl, rfl⟩
    go_wp2
    go_ret
    exact ⟨none, 0, rfl, Nat.le_refl _, ⟨rfl, by simp, fun hp => absurd hp (by simp)⟩, b2⟩
  · have hrow : RowB w2 g es (cur.toList.drop (es.length * 6)) := by
      unfold RowB
      rw [← htk, List.take_append_drop]
      exact hblk
    have HROW := Aside0.mk hrow
    have HGE := Aside0.mk (And.intro hge hcap)
    clear hown hblk hcap hmax hsz htk hrow hge
    go_wp2_with fail
    refine (rev_c HROW.out (by omega)).mono ?_
    rintro e w3 ⟨rfl, hrow3, hg⟩
    have b3 : Below w.heap.size w w3 := b2.grown hg b2.size (fun k e => by cases e; have := HGE.out.1; simp at this; omega)
    have HR := Aside0.mk hrow3
    clear hrow3
    go_wp2
    go_ret
    refine ⟨some ⟨g, 0, none⟩, cap, by simp, by simpa using HGE.out.2, ?_, b3⟩
    have h3 := row_reads HR.out (by simp; omega) b3
    simpa using h3
end Go.Proofs.Ytalmhbiedkjpmaa.PCtxPlays

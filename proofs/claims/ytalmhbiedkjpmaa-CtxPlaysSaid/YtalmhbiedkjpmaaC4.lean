/-
  ctx: the walk of Find.
-/
import Derived.Test.YtalmhbiedkjpmaaC3
namespace Go.Proofs.Ytalmhbiedkjpmaa.PCtxPlays
open Go.RowKit Go.Shelf Go.Proofs.YtalmhbiedkjpmaaW.Mine Go.Proofs.YtalmhbiedkjpmaaW.PrintWords Go.Proofs.YtalmhbiedkjpmaaW.PrintLast Go.Proofs.YtalmhbiedkjpmaaW.PrintMore
attribute [local go_sem] Oper.semAt_some
set_option linter.unusedVariables false
set_option linter.unusedSimpArgs false
/-- What a block of cells holds abides whatever befalls other blocks that are no cells. -/
theorem blk_own {β : Type} (B : Nat) (f : β → Array Value) (t : TypeId) : Own (fun s W => W.heap[B]? = some (.cells (f s) t (0, 0))) := fun s X Y row hs hg hrow =>
  (hg.block B (Array.getElem?_eq_some_iff.1 hs).1 (fun e => by obtain ⟨o, ho, hc⟩ := hrow B e.symm; rw [hs] at ho; cases ho; cases hc)).trans hs
/-- What Find answers. -/
def FindOut (w : World) (l : List Bd) (s : ByteArray) (e : Ending) (w' : World) : Prop := Below w.heap.size w w' ∧ match l.find? (fun x => eqText x.f0 s) with
  | some x => ∃ A3 c3 A4 c4, e = .returned (.tuple #[tv x.f1 A3 c3 A4 c4, .bool true]) ∧ RT w' x.f1 A3 c3 A4 c4
  | none => e = .returned (.tuple #[tv z31 none 0 none 0, .bool false])
/-- What holds between two rounds; what holds where one has left. -/
def FI (w : World) (s : ByteArray) (pre : List (Ent w)) (W : World) : Prop := ((∀ y, y ∈ pre → eqText y.x.f0 s = false) ∧ W.heap[w.heap.size]? = some (.cells #[.string s] 9 (0, 0)) ∧ W.heap[w.heap.size + 1]? = some (.cells #[.int .i64 0, .int .i64 0, .string ⟨#[]⟩, .slice none 0 0, .slice none 0 0] 31 (0, 0)) ∧ W.heap[w.heap.size + 1 + 1]? = some (.cells #[.bool false] 4 (0, 0))) ∧ Below w.heap.size w W
def FX (w : World) (s : ByteArray) (c : Code) (pre : List (Ent w)) (W : World) : Prop := ((c = .ret ∧ ∃ pr y, pre = pr ++ [y] ∧ (∀ z, z ∈ pr → eqText z.x.f0 s = false) ∧ eqText y.x.f0 s = true ∧ W.heap[w.heap.size + 1]? = some (.cells #[.int .i64 y.x.f1.f0, .int .i64 y.x.f1.f1, .string y.x.f1.f2, .slice y.A3 y.x.f1.f3.length y.c3, .slice y.A4 y.x.f1.f4.length y.c4] 31 (0, 0)) ∧ W.heap[w.heap.size + 1 + 1]? = some (.cells #[.bool true] 4 (0, 0)))) ∧ Below w.heap.size w W
theorem kept_blk {W W' : World} {row : Option Nat} {B : Nat} {cs : Array Value} {t : TypeId} (hs : W.heap[B]? = some (.cells cs t (0, 0))) (hg : W.grownBy W' row) (hr : ∀ r, row = some r → ∃ o : Obj, W.heap[r]? = some o ∧ o.isCells = false) : W'.heap[B]? = some (.cells cs t (0, 0)) :=
  blk_own (β := Unit) B (fun _ => cs) t () W W' row hs hg hr
theorem FI.own (w : World) (s : ByteArray) (B : Nat) (hB : w.heap.size ≤ B) : OwnFrom B (FI w s) :=
  OwnFrom.and (Own.from (fun st X Y row hs hg hr => ⟨hs.1, kept_blk hs.2.1 hg hr, kept_blk hs.2.2.1 hg hr, kept_blk hs.2.2.2 hg hr⟩) _) (ownFrom_below (Nat.le_refl _) hB)
theorem FX.own (w : World) (s : ByteArray) (c : Code) (B : Nat) (hB : w.heap.size ≤ B) : OwnFrom B (FX w s c) :=
  OwnFrom.and (Own.from (fun st X Y row hs hg hr => by
    obtain ⟨h1, pr, y, h2, h3, h4, h5, h6⟩ := hs
    exact ⟨h1, pr, y, h2, h3, h4, kept_blk h5 hg hr, kept_blk h6 hg hr⟩) _) (ownFrom_below (Nat.le_refl _) hB)
/-- The frame of a round. -/
def FA (w : World) (p : Option Addr) (s : ByteArray) (gL : Nat) (x : Ent w) (a' : Act) (W : World) : Prop := ∃ Bx, w.heap.size + 1 + 1 < Bx ∧ W.heap[Bx]? = some (.cells #[.string x.x.f0, .int .i64 x.x.f1.f0, .int .i64 x.x.f1.f1, .string x.x.f1.f2, .slice x.A3 x.x.f1.f3.length x.c3, .slice x.A4 x.x.f1.f4.length x.c4] 33 (0, 0)) ∧
  a' = { tmps := #[.pointer p, .string s, undef, .pointer (some ⟨w.heap.size, 0, none⟩), .pointer (some ⟨w.heap.size + 1, 0, none⟩), .pointer (some ⟨w.heap.size + 1 + 1, 0, none⟩), .pointer (some ⟨Bx, 0, none⟩), .pointer p, .func (.func 48) #[] #[.pointer (some ⟨gL, 0, none⟩)], x.val, undef, undef, undef, undef, undef, undef, undef], defers := [] }
theorem FA.own (w : World) (p : Option Addr) (s : ByteArray) (gL B : Nat) (x : Ent w) (a' : Act) : OwnFrom B (fun (_ : Unit) W => FA w p s gL x a' W) :=
  Own.from (fun st X Y row hs hg hr => by
    obtain ⟨Bx, h1, h2, h3⟩ := hs
    exact ⟨Bx, h1, kept_blk h2 hg hr, h3⟩) _
/-- A whole type is stored into a box. -/
theorem stored {w : World} {g : Nat} {t : TypeId} {z0 z1 z2 z3 z4 : Value} (h : w.heap[g]? = some (.cells #[z0, z1, z2, z3, z4] t (0, 0))) (v0 v1 v2 v3 v4 : Value) :
    ((((((w.setCell ⟨g, 0, none⟩ v0).setCell ⟨g, 1, none⟩ v1).setCell ⟨g, 2, none⟩ v2).setCell ⟨g, 3, none⟩ v3).setCell ⟨g, 4, none⟩ v4)).heap[g]? = some (.cells #[v0, v1, v2, v3, v4] t (0, 0)) := blk_set (blk_set (blk_set (blk_set (blk_set h 0 v0) 1 v1) 2 v2) 3 v3) 4 v4
theorem far5 {w : World} {g g' : Nat} {t : TypeId} {cs : Array Value} (h : w.heap[g']? = some (.cells cs t (0, 0))) (hne : g' ≠ g) (v0 v1 v2 v3 v4 : Value) :
    ((((((w.setCell ⟨g, 0, none⟩ v0).setCell ⟨g, 1, none⟩ v1).setCell ⟨g, 2, none⟩ v2).setCell ⟨g, 3, none⟩ v3).setCell ⟨g, 4, none⟩ v4)).heap[g']? = some (.cells cs t (0, 0)) := blk_far (blk_far (blk_far (blk_far (blk_far h hne v0) hne v1) hne v2) hne v3) hne v4
theorem below5 {w0 w : World} {g : Nat} (h : Below w0.heap.size w0 w) (hg : w0.heap.size ≤ g) (v0 v1 v2 v3 v4 : Value) : Below w0.heap.size w0 (((((w.setCell ⟨g, 0, none⟩ v0).setCell ⟨g, 1, none⟩ v1).setCell ⟨g, 2, none⟩ v2).setCell ⟨g, 3, none⟩ v3).setCell ⟨g, 4, none⟩ v4) :=
  below_set (below_set (below_set (below_set (below_set h hg) hg) hg) hg) hg
theorem others6 (W : World) (p0 p1 p2 p3 p4 p5 : Addr) (v0 v1 v2 v3 v4 v5 : Value) : KeepsOthers W ((((((W.setCell p0 v0).setCell p1 v1).setCell p2 v2).setCell p3 v3).setCell p4 v4).setCell p5 v5) :=
  (((((KeepsOthers.setCell _ _ _).trans (KeepsOthers.setCell _ _ _)).trans (KeepsOthers.setCell _ _ _)).trans (KeepsOthers.setCell _ _ _)).trans (KeepsOthers.setCell _ _ _)).trans (KeepsOthers.setCell _ _ _)
theorem results_cb {P : Program} {fn : Func} {p p' : Tmp} {ty ty' : TypeId} (h : fn.results = #[.cell p ty, .cell p' ty']) (tmps : Array Value) (w : World) (g g' : Nat) (t : TypeId) (cs : Array Value) (fr : Nat × Nat) (d : TypeDesc) (b : Value)
    (hp : tmps.getD p undef = .pointer (some ⟨g, 0, none⟩)) (hg : w.heap[g]? = some (.cells cs t fr))
    (hu : P.underlying ty = some d) (hd : (match d with | .struct _ | .array _ _ => true | _ => false) = true) (hi : (P.info? ty).map (·.size) = some cs.size)
    (hp' : tmps.getD p' undef = .pointer (some ⟨g', 0, none⟩)) (hl : (loadVar ty' ⟨g', 0, none⟩).run P w = .ok b w) :
    (results fn tmps).run P w = .ok (.tuple #[.agg cs, b]) w := by
  have h1 : tmps[p]?.getD undef = .pointer (some ⟨g, 0, none⟩) := by simpa using hp
  have h2 : tmps[p']?.getD undef = .pointer (some ⟨g', 0, none⟩) := by simpa using hp'
  simp [results, h, h1, h2, asAddr, run_loadVar_row w g t ty cs fr d hg hu hd hi, hl]
theorem load_bool {w : World} {g : Nat} {b : Bool} (hc : w.cell? ⟨g, 0, none⟩ = some (.bool b)) : (loadVar 4 ⟨g, 0, none⟩).run Try.prog w = .ok (.bool b) w := by simp [loadVar, go_sem, hc]
theorem find_first {l : List Bd} {s : ByteArray} {pr : List Bd} {y : Bd} (hp : (pr ++ [y]) <+: l) (hn : ∀ z, z ∈ pr → eqText z.f0 s = false) (hy : eqText y.f0 s = true) : l.find? (fun x => eqText x.f0 s) = some y := by
  obtain ⟨r, rfl⟩ := hp
  rw [List.find?_append, List.find?_append, List.find?_eq_none.2 (fun z hz => by rw [hn z hz]; decide)]
  simp [hy]
theorem below_put {w W : World} {D : Nat} {o o' : Obj} (hB : Below w.heap.size w W) (hD : w.heap.size ≤ D) (hK : W.heap[D]? = some o) (ho : o.isCells = false) (hw : o.isWalk = false) : Below w.heap.size w (W.putObj D o') := hB.trans (belowK_b (w := w) (Nat.le_refl _) W D _ _ hD hK ho hw)
set_option maxRecDepth 100000 in
set_option maxHeartbeats 800000 in
theorem find_c {w : World} {p : Option Addr} {l : List Bd} (s : ByteArray) (hl : IsCtx w p l) (hn : l.length < 4611686018427387904) :
    Calls Try.prog 14 #[.pointer p, .string s] w (FindOut w l s) := by
  obtain ⟨es, rfl, hL⟩ := hl.ents
  refine (callsIn_wide (n := 3)).1 ?_
  refine callsIn_of_wp_marks Try.func14 rfl trivial ?_ rfl
  simp only [Try.ntmps14, List.size_toArray, List.length_cons, List.length_nil, Nat.reduceAdd, Nat.reduceSub, Array.replicate_succ, Array.replicate_zero, List.push_toArray, List.append_toArray, List.nil_append, List.cons_append]
  gi_wp2_with (refine ⟨trivial, ?_⟩; gi_at_call 38; refine (callsIn_wide.2 (last_c _ _)).mono ?_; rintro e w' ⟨rfl, rfl⟩)
  have k0 := blk_new w (.cells #[.string s] 9)
  have k1 := blk_new (w.alloc (.cells #[.string s] 9)) (.cells #[.int .i64 0, .int .i64 0, .string ⟨#[]⟩, .slice none 0 0, .slice none 0 0] 31)
  have k2 := blk_new ((w.alloc (.cells #[.string s] 9)).alloc (.cells #[.int .i64 0, .int .i64 0, .string ⟨#[]⟩, .slice none 0 0, .slice none 0 0] 31)) (.cells #[.bool false] 4)
  have k3 := blk_new (((w.alloc (.cells #[.string s] 9)).alloc (.cells #[.int .i64 0, .int .i64 0, .string ⟨#[]⟩, .slice none 0 0, .slice none 0 0] 31)).alloc (.cells #[.bool false] 4)) (.cells #[.pointer p] 25)
  simp only [World.size_alloc] at k1 k2 k3
  have hB0 := chain (chain (chain (below_alloc1 w (.cells #[.string s] 9)) (below_alloc1 _ (.cells #[.int .i64 0, .int .i64 0, .string ⟨#[]⟩, .slice none 0 0, .slice none 0 0] 31))) (below_alloc1 _ (.cells #[.bool false] 4))) (below_alloc1 _ (.cells #[.pointer p] 25))
  have K0 := blk_alloc (blk_alloc (blk_alloc k0 (.cells #[.int .i64 0, .int .i64 0, .string ⟨#[]⟩, .slice none 0 0, .slice none 0 0] 31)) (.cells #[.bool false] 4)) (.cells #[.pointer p] 25)
  have K1 := blk_alloc (blk_alloc k1 (.cells #[.bool false] 4)) (.cells #[.pointer p] 25)
  have K2 := blk_alloc k2 (.cells #[.pointer p] 25)
  clear k0 k1 k2
  obtain ⟨W0, hW0⟩ : ∃ W0, ((((w.alloc (.cells #[.string s] 9)).alloc (.cells #[.int .i64 0, .int .i64 0, .string ⟨#[]⟩, .slice none 0 0, .slice none 0 0] 31)).alloc (.cells #[.bool false] 4)).alloc (.cells #[.pointer p] 25)) = W0 := ⟨_, rfl⟩
  have hsz : W0.heap.size = w.heap.size + 1 + 1 + 1 + 1 := by rw [← hW0]; simp
  rw [hW0] at k3 hB0 K0 K1 K2 ⊢
  clear hW0
  have c3 := (blk_cell k3 0).trans (show _ = some (Value.pointer p) from rfl)
  have hlen : ((es.length : Nat) : Int) ≤ 9223372036854775807 := by simp at hn; omega
  refine wpIn_rangeFunc_ownH (F := Fence.wide) rfl (by decide) (gf := 48) (lb := #[.pointer (some ⟨w.heap.size + 1 + 1 + 1, 0, none⟩)]) rfl trivial (enters_of Try.func48 (by kernel_rfl) rfl)
    (last_stops 2 (by decide) hlen hL W0 (w.heap.size + 1 + 1 + 1) hB0 (by omega) c3) belowK_t (belowK_b (by omega)) (Below.refl _ _) (fun _ => rfl)
    (FI w s) (FX w s) (FI.own w s _ (by omega)) (fun c => FX.own w s c _ (by omega))
    ⟨⟨fun y hy => (by cases hy), K0, K1, K2⟩, hB0⟩
    (FA w p s (w.heap.size + 1 + 1 + 1)) (fun x a' => FA.own w p s _ _ x a') ?assign ?body ?done ?stop
  case assign =>
    intro l pre x W K hi hK
    have hlt : w.heap.size + 1 + 1 < W.heap.size := (Array.getElem?_eq_some_iff.1 hi.1.2.2.2).1
    dsimp only [Ent.val]
    gi_wp2
    exact hK _ _ ((KeepsOthers.alloc _ _).from _) ((Below.refl _ W).alloc hi.2.size _) ⟨⟨hi.1.1, blk_alloc hi.1.2.1 _, blk_alloc hi.1.2.2.1 _, blk_alloc hi.1.2.2.2 _⟩, hi.2.alloc hi.2.size _⟩ ⟨W.heap.size, hlt, blk_new W _, rfl⟩
  case body =>
    rintro l pre x a' W hl2 ⟨r, hr⟩ ⟨⟨hne, K0, K1, K2⟩, hB⟩ ⟨Bx, hBx, bX, rfl⟩ hlt
    obtain ⟨⟨x0, x1, x2, x3, x4, x5⟩, lx⟩ := six bX
    obtain ⟨⟨r0, r1, r2, r3, r4⟩, ⟨s0, s1, s2, s3, s4⟩, lr⟩ := five K1
    have o0 := (blk_cell K2 0).trans (show _ = some (Value.bool false) from rfl)
    have f0 := blk_frozen K2 0
    have q0 := (blk_cell K0 0).trans (show _ = some (Value.string s) from rfl)
    have lt := (Array.getElem?_eq_some_iff.1 K2).1
    cases hx : eqText x.x.f0 s with
    | true =>
      have hx' : (x.x.f0.toList == s.toList) = true := hx
      have HX := Aside0.mk hx
      clear hx hr hl2
      dsimp only [Ent.val]
      gi_wp2
      exact ⟨(others6 _ _ _ _ _ _ _ _ _ _ _ _ _).from _, ⟨rfl, pre, x, rfl, hne, HX.out, blk_far (stored K1 _ _ _ _ _) (by dsimp only; omega) _, blk_set (far5 K2 (by omega) _ _ _ _ _) 0 _⟩, below_set (below5 hB (by omega) _ _ _ _ _) (by omega)⟩
    | false =>
      have hx' : (x.x.f0.toList == s.toList) = false := hx
      have HX := Aside0.mk hx
      clear hx hr hl2
      dsimp only [Ent.val]
      gi_wp2
      exact ⟨KeepsFrom.refl _ _, Below.refl _ _, ⟨fun y hy => (List.mem_append.1 hy).elim (hne y) (fun e => by rw [List.mem_singleton.1 e]; exact HX.out), K0, K1, K2⟩, hB⟩
  case done =>
    rintro D ys W hD rfl ⟨⟨hne, K0, K1, K2⟩, hB⟩ hK
    obtain ⟨⟨r0, r1, r2, r3, r4⟩, ⟨s0, s1, s2, s3, s4⟩, lr⟩ := five K1
    have o0 := (blk_cell K2 0).trans (show _ = some (Value.bool false) from rfl)
    have f0 := blk_frozen K2 0
    gi_wp2
    have hK' := (others6 W ⟨w.heap.size + 1, 0, none⟩ ⟨w.heap.size + 1, 1, none⟩ ⟨w.heap.size + 1, 2, none⟩ ⟨w.heap.size + 1, 3, none⟩ ⟨w.heap.size + 1, 4, none⟩ ⟨w.heap.size + 1 + 1, 0, none⟩ (.int .i64 0) (.int .i64 0) (.string ⟨#[]⟩) (.slice none 0 0) (.slice none 0 0) (.bool false)).same D _ hK rfl
    refine ⟨by simp, .inl ⟨_, _, rfl, run_takeDeferred hK', ?_⟩⟩
    have R1 := kept_blk (blk_far (stored K1 (.int .i64 0) (.int .i64 0) (.string ⟨#[]⟩) (.slice none 0 0) (.slice none 0 0)) (p := ⟨w.heap.size + 1 + 1, 0, none⟩) (by dsimp only; omega) (.bool false)) (grownBy_putObj' _ D (.deferred none)) (fun r e => by cases e; exact ⟨_, hK', rfl⟩)
    have R2 := kept_blk (blk_set (far5 K2 (g := w.heap.size + 1) (by omega) (.int .i64 0) (.int .i64 0) (.string ⟨#[]⟩) (.slice none 0 0) (.slice none 0 0)) 0 (.bool false)) (grownBy_putObj' _ D (.deferred none)) (fun r e => by cases e; exact ⟨_, hK', rfl⟩)
    refine ⟨_, results_cb (P := Try.prog) rfl _ _ (w.heap.size + 1) (w.heap.size + 1 + 1) 31 _ (0, 0) _ _ rfl R1 Try.underlying31 rfl (by kernel_rfl) rfl (load_bool ((blk_cell R2 0).trans rfl)), ?_⟩
    refine ⟨below_put (below_set (below5 hB (by omega) _ _ _ _ _) (by omega)) (by omega) hK' rfl rfl, ?_⟩
    rw [List.find?_eq_none.2 (fun z hz => by obtain ⟨y, hy, rfl⟩ := List.mem_map.1 hz; rw [hne y hy]; decide)]
    rfl
  case stop =>
    rintro D c pre W hD hpre ⟨⟨rfl, pr, y, rfl, hpr, hy, K1, K2⟩, hB⟩ hK
    gi_wp2
    refine ⟨by simp, .inl ⟨_, _, rfl, run_takeDeferred hK, ?_⟩⟩
    have R1 := kept_blk K1 (grownBy_putObj' _ D (.deferred none)) (fun r e => by cases e; exact ⟨_, hK, rfl⟩)
    have R2 := kept_blk K2 (grownBy_putObj' _ D (.deferred none)) (fun r e => by cases e; exact ⟨_, hK, rfl⟩)
    refine ⟨_, results_cb (P := Try.prog) rfl _ _ (w.heap.size + 1) (w.heap.size + 1 + 1) 31 _ (0, 0) _ _ rfl R1 Try.underlying31 rfl (by kernel_rfl) rfl (load_bool ((blk_cell R2 0).trans rfl)), ?_⟩
    have hb := below_put (o' := .deferred none) hB (by omega) hK rfl rfl
    refine ⟨hb, ?_⟩
    obtain ⟨rest, he⟩ := hpre
    rw [find_first (pr := pr.map (·.x)) (y := y.x) ⟨rest.map (·.x), by rw [← he]; simp⟩ (fun z hz => by obtain ⟨u, hu, rfl⟩ := List.mem_map.1 hz; exact hpr u hu) hy]
    exact ⟨_, _, _, _, rfl, y.h.below hb⟩
end Go.Proofs.Ytalmhbiedkjpmaa.PCtxPlays

/-
  env: the walk of Find.
-/
import Derived.Test.YtalmhbiedkjpmaaE2
namespace Go.Proofs.Ytalmhbiedkjpmaa.PEnvPlays
open Go.RowKit Go.Shelf Go.Proofs.YtalmhbiedkjpmaaW.Mine Go.Proofs.YtalmhbiedkjpmaaW.PrintWords Go.Proofs.YtalmhbiedkjpmaaW.PrintLast Go.Proofs.YtalmhbiedkjpmaaW.PrintMore
attribute [local go_sem] Oper.semAt_some
set_option linter.unusedVariables false
set_option linter.unusedSimpArgs false
theorem blk_own {β : Type} (B : Nat) (f : β → Array Value) (t : TypeId) : Own (fun s W => W.heap[B]? = some (.cells (f s) t (0, 0))) := fun s X Y row hs hg hrow =>
  (hg.block B (Array.getElem?_eq_some_iff.1 hs).1 (fun e => by obtain ⟨o, ho, hc⟩ := hrow B e.symm; rw [hs] at ho; cases ho; cases hc)).trans hs
theorem kept_blk {W W' : World} {row : Option Nat} {B : Nat} {cs : Array Value} {t : TypeId} (hs : W.heap[B]? = some (.cells cs t (0, 0))) (hg : W.grownBy W' row) (hr : ∀ r, row = some r → ∃ o : Obj, W.heap[r]? = some o ∧ o.isCells = false) : W'.heap[B]? = some (.cells cs t (0, 0)) :=
  blk_own (β := Unit) B (fun _ => cs) t () W W' row hs hg hr
/-- What Find answers. -/
def FindOut (w : World) (l : List Sl) (s : ByteArray) (e : Ending) (w' : World) : Prop := Below w.heap.size w w' ∧ match l.find? (fun x => eqText x.f0 s) with
  | some x => ∃ A6 c6 A7 c7 A8 c8, e = .returned (.tuple #[vv x.f1 A6 c6 A7 c7 A8 c8, .bool true]) ∧ RV w' x.f1 A6 c6 A7 c7 A8 c8
  | none => e = .returned (.tuple #[vv z52 none 0 none 0 none 0, .bool false])
def FI (w : World) (tp : Option Addr) (s : ByteArray) (pre : List (Ent w tp)) (W : World) : Prop := ((∀ y, y ∈ pre → eqText y.x.f0 s = false) ∧ W.heap[w.heap.size]? = some (.cells #[.string s] 9 (0, 0)) ∧ W.heap[w.heap.size + 1]? = some (.cells #[.int .i64 0, .int .i64 0, .int .i64 0, .bool false, .string ⟨#[]⟩, .string ⟨#[]⟩, .int .i64 0, .slice none 0 0, .slice none 0 0, .slice none 0 0] 52 (0, 0)) ∧ W.heap[w.heap.size + 1 + 1]? = some (.cells #[.bool false] 4 (0, 0))) ∧ Below w.heap.size w W
def FX (w : World) (tp : Option Addr) (s : ByteArray) (c : Code) (pre : List (Ent w tp)) (W : World) : Prop := ((c = .ret ∧ ∃ pr y, pre = pr ++ [y] ∧ (∀ z, z ∈ pr → eqText z.x.f0 s = false) ∧ eqText y.x.f0 s = true ∧ W.heap[w.heap.size + 1]? = some (.cells #[.int .i64 y.x.f1.f0, .int .i64 y.x.f1.f1, .int .i64 y.x.f1.f2, .bool y.x.f1.f3, .string y.x.f1.f4, .string y.x.f1.f5.f0, .int .i64 y.x.f1.f5.f1, .slice y.A6 y.x.f1.f6.length y.c6, .slice y.A7 y.x.f1.f7.length y.c7, .slice y.A8 y.x.f1.f8.length y.c8] 52 (0, 0)) ∧ W.heap[w.heap.size + 1 + 1]? = some (.cells #[.bool true] 4 (0, 0)))) ∧ Below w.heap.size w W
theorem FI.own (w : World) (tp : Option Addr) (s : ByteArray) (B : Nat) (hB : w.heap.size ≤ B) : OwnFrom B (FI w tp s) :=
  OwnFrom.and (Own.from (fun st X Y row hs hg hr => ⟨hs.1, kept_blk hs.2.1 hg hr, kept_blk hs.2.2.1 hg hr, kept_blk hs.2.2.2 hg hr⟩) _) (ownFrom_below (Nat.le_refl _) hB)
theorem FX.own (w : World) (tp : Option Addr) (s : ByteArray) (c : Code) (B : Nat) (hB : w.heap.size ≤ B) : OwnFrom B (FX w tp s c) :=
  OwnFrom.and (Own.from (fun st X Y row hs hg hr => by
    obtain ⟨h1, pr, y, h2, h3, h4, h5, h6⟩ := hs
    exact ⟨h1, pr, y, h2, h3, h4, kept_blk h5 hg hr, kept_blk h6 hg hr⟩) _) (ownFrom_below (Nat.le_refl _) hB)
theorem stored10 {w : World} {g : Nat} {t : TypeId} {z0 z1 z2 z3 z4 z5 z6 z7 z8 z9 : Value} (h : w.heap[g]? = some (.cells #[z0, z1, z2, z3, z4, z5, z6, z7, z8, z9] t (0, 0))) (v0 v1 v2 v3 v4 v5 v6 v7 v8 v9 : Value) :
    (((((((((((w.setCell ⟨g, 0, none⟩ v0).setCell ⟨g, 1, none⟩ v1).setCell ⟨g, 2, none⟩ v2).setCell ⟨g, 3, none⟩ v3).setCell ⟨g, 4, none⟩ v4).setCell ⟨g, 5, none⟩ v5).setCell ⟨g, 6, none⟩ v6).setCell ⟨g, 7, none⟩ v7).setCell ⟨g, 8, none⟩ v8).setCell ⟨g, 9, none⟩ v9)).heap[g]? = some (.cells #[v0, v1, v2, v3, v4, v5, v6, v7, v8, v9] t (0, 0)) := (blk_put (cs' := #[v0, v1, v2, v3, v4, v5, v6, v7, v8, v9]) (blk_put (cs' := #[v0, v1, v2, v3, v4, v5, v6, v7, v8, z9]) (blk_put (cs' := #[v0, v1, v2, v3, v4, v5, v6, v7, z8, z9]) (blk_put (cs' := #[v0, v1, v2, v3, v4, v5, v6, z7, z8, z9]) (blk_put (cs' := #[v0, v1, v2, v3, v4, v5, z6, z7, z8, z9]) (blk_put (cs' := #[v0, v1, v2, v3, v4, z5, z6, z7, z8, z9]) (blk_put (cs' := #[v0, v1, v2, v3, z4, z5, z6, z7, z8, z9]) (blk_put (cs' := #[v0, v1, v2, z3, z4, z5, z6, z7, z8, z9]) (blk_put (cs' := #[v0, v1, z2, z3, z4, z5, z6, z7, z8, z9]) (blk_put (cs' := #[v0, z1, z2, z3, z4, z5, z6, z7, z8, z9]) h 0 v0 rfl) 1 v1 rfl) 2 v2 rfl) 3 v3 rfl) 4 v4 rfl) 5 v5 rfl) 6 v6 rfl) 7 v7 rfl) 8 v8 rfl) 9 v9 rfl)
theorem far10 {w : World} {g g' : Nat} {t : TypeId} {cs : Array Value} (h : w.heap[g']? = some (.cells cs t (0, 0))) (hne : g' ≠ g) (v0 v1 v2 v3 v4 v5 v6 v7 v8 v9 : Value) :
    (((((((((((w.setCell ⟨g, 0, none⟩ v0).setCell ⟨g, 1, none⟩ v1).setCell ⟨g, 2, none⟩ v2).setCell ⟨g, 3, none⟩ v3).setCell ⟨g, 4, none⟩ v4).setCell ⟨g, 5, none⟩ v5).setCell ⟨g, 6, none⟩ v6).setCell ⟨g, 7, none⟩ v7).setCell ⟨g, 8, none⟩ v8).setCell ⟨g, 9, none⟩ v9)).heap[g']? = some (.cells cs t (0, 0)) := (blk_far (blk_far (blk_far (blk_far (blk_far (blk_far (blk_far (blk_far (blk_far (blk_far h hne v0) hne v1) hne v2) hne v3) hne v4) hne v5) hne v6) hne v7) hne v8) hne v9)
theorem below10 {w0 w : World} {g : Nat} (h : Below w0.heap.size w0 w) (hg : w0.heap.size ≤ g) (v0 v1 v2 v3 v4 v5 v6 v7 v8 v9 : Value) : Below w0.heap.size w0 ((((((((((w.setCell ⟨g, 0, none⟩ v0).setCell ⟨g, 1, none⟩ v1).setCell ⟨g, 2, none⟩ v2).setCell ⟨g, 3, none⟩ v3).setCell ⟨g, 4, none⟩ v4).setCell ⟨g, 5, none⟩ v5).setCell ⟨g, 6, none⟩ v6).setCell ⟨g, 7, none⟩ v7).setCell ⟨g, 8, none⟩ v8).setCell ⟨g, 9, none⟩ v9) := (below_set (below_set (below_set (below_set (below_set (below_set (below_set (below_set (below_set (below_set h hg) hg) hg) hg) hg) hg) hg) hg) hg) hg)
theorem others10 (W : World) (g : Nat) (v0 v1 v2 v3 v4 v5 v6 v7 v8 v9 : Value) : KeepsOthers W ((((((((((W.setCell ⟨g, 0, none⟩ v0).setCell ⟨g, 1, none⟩ v1).setCell ⟨g, 2, none⟩ v2).setCell ⟨g, 3, none⟩ v3).setCell ⟨g, 4, none⟩ v4).setCell ⟨g, 5, none⟩ v5).setCell ⟨g, 6, none⟩ v6).setCell ⟨g, 7, none⟩ v7).setCell ⟨g, 8, none⟩ v8).setCell ⟨g, 9, none⟩ v9) := by
  refine KeepsOthers.trans (KeepsOthers.trans (KeepsOthers.trans (KeepsOthers.trans (KeepsOthers.trans (KeepsOthers.trans (KeepsOthers.trans (KeepsOthers.trans (KeepsOthers.trans (KeepsOthers.setCell _ _ _) (KeepsOthers.setCell _ _ _)) (KeepsOthers.setCell _ _ _)) (KeepsOthers.setCell _ _ _)) (KeepsOthers.setCell _ _ _)) (KeepsOthers.setCell _ _ _)) (KeepsOthers.setCell _ _ _)) (KeepsOthers.setCell _ _ _)) (KeepsOthers.setCell _ _ _)) (KeepsOthers.setCell _ _ _)
theorem results_cb {P : Program} {fn : Func} {p p' : Tmp} {ty ty' : TypeId} (h : fn.results = #[.cell p ty, .cell p' ty']) (tmps : Array Value) (w : World) (g g' : Nat) (t : TypeId) (cs : Array Value) (fr : Nat × Nat) (d : TypeDesc) (b : Value)
    (hp : tmps.getD p undef = .pointer (some ⟨g, 0, none⟩)) (hg : w.heap[g]? = some (.cells cs t fr))
    (hu : P.underlying ty = some d) (hd : (match d with | .struct _ | .array _ _ => true | _ => false) = true) (hi : (P.info? ty).map (·.size) = some cs.size)
    (hp' : tmps.getD p' undef = .pointer (some ⟨g', 0, none⟩)) (hl : (loadVar ty' ⟨g', 0, none⟩).run P w = .ok b w) :
    (results fn tmps).run P w = .ok (.tuple #[.agg cs, b]) w := by
  have h1 : tmps[p]?.getD undef = .pointer (some ⟨g, 0, none⟩) := by simpa using hp
  have h2 : tmps[p']?.getD undef = .pointer (some ⟨g', 0, none⟩) := by simpa using hp'
  simp [results, h, h1, h2, asAddr, run_loadVar_row w g t ty cs fr d hg hu hd hi, hl]
theorem load_bool {w : World} {g : Nat} {b : Bool} (hc : w.cell? ⟨g, 0, none⟩ = some (.bool b)) : (loadVar 4 ⟨g, 0, none⟩).run Try.prog w = .ok (.bool b) w := by simp [loadVar, go_sem, hc]
theorem find_first {l : List Sl} {s : ByteArray} {pr : List Sl} {y : Sl} (hp : (pr ++ [y]) <+: l) (hn : ∀ z, z ∈ pr → eqText z.f0 s = false) (hy : eqText y.f0 s = true) : l.find? (fun x => eqText x.f0 s) = some y := by
  obtain ⟨r, rfl⟩ := hp
  rw [List.find?_append, List.find?_append, List.find?_eq_none.2 (fun z hz => by rw [hn z hz]; decide)]
  simp [hy]
theorem below_put {w W : World} {D : Nat} {o o' : Obj} (hB : Below w.heap.size w W) (hD : w.heap.size ≤ D) (hK : W.heap[D]? = some o) (ho : o.isCells = false) (hw : o.isWalk = false) : Below w.heap.size w (W.putObj D o') := hB.trans (belowK_b (w := w) (Nat.le_refl _) W D _ _ hD hK ho hw)
set_option maxRecDepth 100000 in
set_option maxHeartbeats 8000000 in
theorem find_c {w : World} {tp p : Option Addr} {l : List Sl} (s : ByteArray) (hl : IsEnv w tp p l) (hn : l.length < 4611686018427387904) :
    Calls Try.prog 26 #[.pointer p, .string s] w (FindOut w l s) := by
  obtain ⟨es, rfl, hL⟩ := hl.ents
  have hmix : Try.prog.follows Departure.mixedOrders = true := by kernel_rfl
  refine (callsIn_wide (n := 3)).1 ?_
  refine callsIn_of_wp_marks Try.func26 rfl trivial ?_ rfl
  simp only [Try.ntmps26, List.size_toArray, List.length_cons, List.length_nil, Nat.reduceAdd, Nat.reduceSub, Array.replicate_succ, Array.replicate_zero, List.push_toArray, List.append_toArray, List.nil_append, List.cons_append]
  gi_wp2_with (refine ⟨trivial, ?_⟩; gi_at_call 44; refine (callsIn_wide.2 (last_c _ _)).mono ?_; rintro e w' ⟨rfl, rfl⟩)
  have k0 := blk_new w (.cells #[.string s] 9)
  have k1 := blk_new (w.alloc (.cells #[.string s] 9)) (.cells #[.int .i64 0, .int .i64 0, .int .i64 0, .bool false, .string ⟨#[]⟩, .string ⟨#[]⟩, .int .i64 0, .slice none 0 0, .slice none 0 0, .slice none 0 0] 52)
  have k2 := blk_new ((w.alloc (.cells #[.string s] 9)).alloc (.cells #[.int .i64 0, .int .i64 0, .int .i64 0, .bool false, .string ⟨#[]⟩, .string ⟨#[]⟩, .int .i64 0, .slice none 0 0, .slice none 0 0, .slice none 0 0] 52)) (.cells #[.bool false] 4)
  have k3 := blk_new (((w.alloc (.cells #[.string s] 9)).alloc (.cells #[.int .i64 0, .int .i64 0, .int .i64 0, .bool false, .string ⟨#[]⟩, .string ⟨#[]⟩, .int .i64 0, .slice none 0 0, .slice none 0 0, .slice none 0 0] 52)).alloc (.cells #[.bool false] 4)) (.cells #[.pointer p] 56)
  simp only [World.size_alloc] at k1 k2 k3
  have hB0 := chain (chain (chain (below_alloc1 w (.cells #[.string s] 9)) (below_alloc1 _ (.cells #[.int .i64 0, .int .i64 0, .int .i64 0, .bool false, .string ⟨#[]⟩, .string ⟨#[]⟩, .int .i64 0, .slice none 0 0, .slice none 0 0, .slice none 0 0] 52))) (below_alloc1 _ (.cells #[.bool false] 4))) (below_alloc1 _ (.cells #[.pointer p] 56))
  have K0 := blk_alloc (blk_alloc (blk_alloc k0 (.cells #[.int .i64 0, .int .i64 0, .int .i64 0, .bool false, .string ⟨#[]⟩, .string ⟨#[]⟩, .int .i64 0, .slice none 0 0, .slice none 0 0, .slice none 0 0] 52)) (.cells #[.bool false] 4)) (.cells #[.pointer p] 56)
  have K1 := blk_alloc (blk_alloc k1 (.cells #[.bool false] 4)) (.cells #[.pointer p] 56)
  have K2 := blk_alloc k2 (.cells #[.pointer p] 56)
  clear k0 k1 k2
  obtain ⟨W0, hW0⟩ : ∃ W0, ((((w.alloc (.cells #[.string s] 9)).alloc (.cells #[.int .i64 0, .int .i64 0, .int .i64 0, .bool false, .string ⟨#[]⟩, .string ⟨#[]⟩, .int .i64 0, .slice none 0 0, .slice none 0 0, .slice none 0 0] 52)).alloc (.cells #[.bool false] 4)).alloc (.cells #[.pointer p] 56)) = W0 := ⟨_, rfl⟩
  have hsz : W0.heap.size = w.heap.size + 1 + 1 + 1 + 1 := by rw [← hW0]; simp
  rw [hW0] at k3 hB0 K0 K1 K2 ⊢
  clear hW0
  have c3 := (blk_cell k3 0).trans (show _ = some (Value.pointer p) from rfl)
  have hlen : ((es.length : Nat) : Int) ≤ 9223372036854775807 := by simp at hn; omega
  refine wpIn_rangeFunc_ownF (F := Fence.wide) rfl (by decide) (gf := 50) (lb := #[.pointer (some ⟨w.heap.size + 1 + 1 + 1, 0, none⟩)]) rfl trivial (enters_of Try.func50 (by kernel_rfl) rfl)
    (last_stops 2 (by decide) hlen hL W0 (w.heap.size + 1 + 1 + 1) hB0 (by omega) c3) belowK_t (belowK_b (by omega)) (Below.refl _ _) (fun _ => rfl)
    (FI w tp s) (FX w tp s) (FI.own w tp s _ (by omega)) (fun c => FX.own w tp s c _ (by omega))
    ⟨⟨fun y hy => (by cases hy), K0, K1, K2⟩, hB0⟩
    (fun x => { tmps := #[.pointer p, .string s, undef, .pointer (some ⟨w.heap.size, 0, none⟩), .pointer (some ⟨w.heap.size + 1, 0, none⟩), .pointer (some ⟨w.heap.size + 1 + 1, 0, none⟩), x.val, .pointer p, .func (.func 50) #[] #[.pointer (some ⟨w.heap.size + 1 + 1 + 1, 0, none⟩)], x.val, undef, undef, undef, undef, undef, undef, undef, undef, undef, undef, undef], defers := [] }) ?assign ?body ?done ?stop
  case assign =>
    intro l x W K hK
    gi_wp2
    exact hK
  case body =>
    rintro l pre x W ⟨⟨hne, K0, K1, K2⟩, hB⟩ hlt
    obtain ⟨⟨x0, x1, x2, x3, x4, x5, x6, x7, x8, x9, x10, x11, x12, x13⟩, lx⟩ := fourteen ((hB.block x.b (Array.getElem?_eq_some_iff.1 x.blk).1).trans x.blk)
    obtain ⟨⟨r0, r1, r2, r3, r4, r5, r6, r7, r8, r9⟩, ⟨s0, s1, s2, s3, s4, s5, s6, s7, s8, s9⟩, lr⟩ := ten K1
    obtain ⟨o0, f0, lo⟩ := one K2
    obtain ⟨q0, _, lq⟩ := one K0
    cases hx : eqText x.x.f0 s with
    | true =>
      have hx' : (x.x.f0.toList == s.toList) = true := hx
      have HX := Aside0.mk hx
      clear hx
      dsimp only [Ent.val]
      gi_wp2
      gi_region_with_o (fail)
      all_goals gi_wp2
      all_goals exact ⟨((others10 _ _ _ _ _ _ _ _ _ _ _ _).trans (KeepsOthers.setCell _ _ _)).trans (KeepsOthers.drew _), ⟨rfl, pre, x, rfl, hne, HX.out, blk_drew (blk_far (stored10 K1 _ _ _ _ _ _ _ _ _ _) (by dsimp only; omega) _), blk_drew (blk_set (far10 K2 (by omega) _ _ _ _ _ _ _ _ _ _) 0 _)⟩, (below_set (below10 hB (by omega) _ _ _ _ _ _ _ _ _ _) (by omega)).drew⟩
    | false =>
      have hx' : (x.x.f0.toList == s.toList) = false := hx
      have HX := Aside0.mk hx
      clear hx
      dsimp only [Ent.val]
      gi_wp2
      gi_region_with_o (fail)
      all_goals gi_wp2
      all_goals exact ⟨KeepsOthers.drew _, (Below.refl _ _).drew, ⟨fun y hy => (List.mem_append.1 hy).elim (hne y) (fun e => by rw [List.mem_singleton.1 e]; exact HX.out), blk_drew K0, blk_drew K1, blk_drew K2⟩, hB.drew⟩
  case done =>
    rintro D ys W hD rfl ⟨⟨hne, K0, K1, K2⟩, hB⟩ hK
    obtain ⟨⟨r0, r1, r2, r3, r4, r5, r6, r7, r8, r9⟩, ⟨s0, s1, s2, s3, s4, s5, s6, s7, s8, s9⟩, lr⟩ := ten K1
    obtain ⟨o0, f0, lo⟩ := one K2
    gi_wp2
    have hK' := ((others10 W (w.heap.size + 1) (.int .i64 0) (.int .i64 0) (.int .i64 0) (.bool false) (.string ⟨#[]⟩) (.string ⟨#[]⟩) (.int .i64 0) (.slice none 0 0) (.slice none 0 0) (.slice none 0 0)).trans (KeepsOthers.setCell _ ⟨w.heap.size + 1 + 1, 0, none⟩ (.bool false))).same D _ hK rfl
    refine ⟨by simp, .inl ⟨_, _, rfl, run_takeDeferred hK', ?_⟩⟩
    have R1 := kept_blk (blk_far (stored10 K1 (.int .i64 0) (.int .i64 0) (.int .i64 0) (.bool false) (.string ⟨#[]⟩) (.string ⟨#[]⟩) (.int .i64 0) (.slice none 0 0) (.slice none 0 0) (.slice none 0 0)) (p := ⟨w.heap.size + 1 + 1, 0, none⟩) (by dsimp only; omega) (.bool false)) (grownBy_putObj' _ D (.deferred none)) (fun r e => by cases e; exact ⟨_, hK', rfl⟩)
    have R2 := kept_blk (blk_set (far10 K2 (g := w.heap.size + 1) (by omega) (.int .i64 0) (.int .i64 0) (.int .i64 0) (.bool false) (.string ⟨#[]⟩) (.string ⟨#[]⟩) (.int .i64 0) (.slice none 0 0) (.slice none 0 0) (.slice none 0 0)) 0 (.bool false)) (grownBy_putObj' _ D (.deferred none)) (fun r e => by cases e; exact ⟨_, hK', rfl⟩)
    refine ⟨_, results_cb (P := Try.prog) rfl _ _ (w.heap.size + 1) (w.heap.size + 1 + 1) 52 _ (0, 0) _ _ rfl R1 Try.underlying52 rfl (by kernel_rfl) rfl (load_bool ((blk_cell R2 0).trans rfl)), ?_⟩
    refine ⟨below_put (below_set (below10 hB (by omega) _ _ _ _ _ _ _ _ _ _) (by omega)) (by omega) hK' rfl rfl, ?_⟩
    rw [List.find?_eq_none.2 (fun z hz => by obtain ⟨y, hy, rfl⟩ := List.mem_map.1 hz; rw [hne y hy]; decide)]
    rfl
  case stop =>
    rintro D c pre W hD hpre ⟨⟨rfl, pr, y, rfl, hpr, hy, K1, K2⟩, hB⟩ hK
    gi_wp2
    refine ⟨by simp, .inl ⟨_, _, rfl, run_takeDeferred hK, ?_⟩⟩
    have R1 := kept_blk K1 (grownBy_putObj' _ D (.deferred none)) (fun r e => by cases e; exact ⟨_, hK, rfl⟩)
    have R2 := kept_blk K2 (grownBy_putObj' _ D (.deferred none)) (fun r e => by cases e; exact ⟨_, hK, rfl⟩)
    refine ⟨_, results_cb (P := Try.prog) rfl _ _ (w.heap.size + 1) (w.heap.size + 1 + 1) 52 _ (0, 0) _ _ rfl R1 Try.underlying52 rfl (by kernel_rfl) rfl (load_bool ((blk_cell R2 0).trans rfl)), ?_⟩
    have hb := below_put (o' := .deferred none) hB (by omega) hK rfl rfl
    refine ⟨hb, ?_⟩
    obtain ⟨rest, he⟩ := hpre
    rw [find_first (pr := pr.map (·.x)) (y := y.x) ⟨rest.map (·.x), by rw [← he]; simp⟩ (fun z hz => by obtain ⟨u, hu, rfl⟩ := List.mem_map.1 hz; exact hpr u hu) hy]
    exact ⟨_, _, _, _, _, _, rfl, y.h.below hb⟩
end Go.Proofs.Ytalmhbiedkjpmaa.PEnvPlays

/-
  env: the walk of Close.
-/
import Derived.Test.YtalmhbiedkjpmaaE4
namespace Go.Proofs.Ytalmhbiedkjpmaa.PEnvPlays
open Go.RowKit Go.Proofs.YtalmhbiedkjpmaaW.Mine Go.Proofs.YtalmhbiedkjpmaaW.PrintWords Go.Proofs.YtalmhbiedkjpmaaW.PrintLast Go.Proofs.YtalmhbiedkjpmaaW.PrintMore
attribute [local go_sem] max2_int min2_int max_two min_two max_three min_three max_four min_four
set_option linter.unusedVariables false
set_option linter.unusedSimpArgs false
theorem take_held {P : Program} {ops : Array Oper} {Q : Exit → Act → World → Prop} {md : Region.Mode} {S : World → Prop} {i : Nat} {oi : Oper} {d : Option Tmp} {v : Value} {fuel : Nat} {listed : Array Bool} {a : Act} {w : World} (hi : ops[i]? = some oi) (hd : oi.dst = d)
    (hs : Region.noSelect ops = true) (hf : Region.free md ops listed i = true) (hr : (Region.ready md ops listed).contains i = true)
    (hQ : ∀ c a w, Q (.panic c) (a.put oi.dst v) w → Q (.panic c) a w) (hy : YieldsIf P ops S oi v a) (hS : S w)
    (h : wpAnyH P md ops Q S fuel (listed.setIfInBounds i true) (a.put d v) w) : wpAnyH P md ops Q S (fuel + 1) listed a w := by
  subst hd; exact wpAnyH_take hi hs hf hr hQ hy hS h
theorem stored {w : World} {g : Nat} {t : TypeId} {z0 z1 z2 z3 z4 : Value} (h : w.heap[g]? = some (.cells #[z0, z1, z2, z3, z4] t (0, 0))) (v0 v1 v2 v3 v4 : Value) :
    ((((((w.setCell ⟨g, 0, none⟩ v0).setCell ⟨g, 1, none⟩ v1).setCell ⟨g, 2, none⟩ v2).setCell ⟨g, 3, none⟩ v3).setCell ⟨g, 4, none⟩ v4)).heap[g]? = some (.cells #[v0, v1, v2, v3, v4] t (0, 0)) := blk_set (blk_set (blk_set (blk_set (blk_set h 0 v0) 1 v1) 2 v2) 3 v3) 4 v4
theorem below5 {w0 w : World} {g : Nat} (h : Below w0.heap.size w0 w) (hg : w0.heap.size ≤ g) (v0 v1 v2 v3 v4 : Value) : Below w0.heap.size w0 (((((w.setCell ⟨g, 0, none⟩ v0).setCell ⟨g, 1, none⟩ v1).setCell ⟨g, 2, none⟩ v2).setCell ⟨g, 3, none⟩ v3).setCell ⟨g, 4, none⟩ v4) :=
  below_set (below_set (below_set (below_set (below_set h hg) hg) hg) hg) hg
theorem two_boxes (w : World) (c d : Array Value) (t : TypeId) : let W := (w.alloc (.cells c t)).alloc (.cells d t)
    W.heap[w.heap.size]? = some (.cells c t (0, 0)) ∧ W.heap[w.heap.size + 1]? = some (.cells d t (0, 0)) ∧ Below w.heap.size w W := by
  have k := blk_new (w.alloc (.cells c t)) (.cells d t)
  simp only [World.size_alloc] at k
  exact ⟨blk_alloc (blk_new w _) _, k, chain (below_alloc1 _ _) (below_alloc1 _ _)⟩
theorem far5c {w : World} {p : Addr} {v : Value} {g : Nat} {v0 v1 v2 v3 v4 : Value} (h : w.cell? p = some v) (hne : p.block ≠ g) : (((((w.setCell ⟨g, 0, none⟩ v0).setCell ⟨g, 1, none⟩ v1).setCell ⟨g, 2, none⟩ v2).setCell ⟨g, 3, none⟩ v3).setCell ⟨g, 4, none⟩ v4).cell? p = some v := by
  rw [World.cell?_setCell_far _ _ _ _ (Ne.symm hne), World.cell?_setCell_far _ _ _ _ (Ne.symm hne), World.cell?_setCell_far _ _ _ _ (Ne.symm hne), World.cell?_setCell_far _ _ _ _ (Ne.symm hne), World.cell?_setCell_far _ _ _ _ (Ne.symm hne)]; exact h
theorem FT.mono {w : World} {ok ok' : Nat → Prop} {x : Ty} {A3 A4 : Option Addr} {c3 c4 : Nat} (h : FT w ok x A3 c3 A4 c4) (hk : ∀ k, ok k → ok' k) : FT w ok' x A3 c3 A4 c4 := ⟨h.1, Kd.F_mono h.2.1 hk, h.2.2.1, Kd.F_mono h.2.2.2 hk⟩
def CloseFut (w : World) (ok : Nat → Prop) (r : Ty) (e : Ending) (w' : World) : Prop := ∃ B3 d3 B4 d4, e = .returned (tv r B3 d3 B4 d4) ∧ FT w' (fun k => ok k ∨ w.heap.size ≤ k) r B3 d3 B4 d4 ∧ Below w.heap.size w w'
theorem CloseFut.mk {w W : World} {ok : Nat → Prop} {r : Ty} {B3 B4 : Option Addr} {d3 d4 : Nat} (hb : Below w.heap.size w W) (hr : FT W (fun k => ok k ∨ w.heap.size ≤ k) r B3 d3 B4 d4) : CloseFut w ok r (.returned (tv r B3 d3 B4 d4)) W := ⟨B3, d3, B4, d4, rfl, hr, hb⟩
def CloseOut (w : World) (r : Ty) (e : Ending) (w' : World) : Prop := ∃ B3 d3 B4 d4, e = .returned (tv r B3 d3 B4 d4) ∧ RT w' r B3 d3 B4 d4 ∧ Below w.heap.size w w'
theorem CloseOut.mk {w W : World} {r : Ty} {B3 B4 : Option Addr} {d3 d4 : Nat} (hb : Below w.heap.size w W) (hr : RT W r B3 d3 B4 d4) : CloseOut w r (.returned (tv r B3 d3 B4 d4)) W := ⟨B3, d3, B4, d4, rfl, hr, hb⟩
/-- Of an environment without type names. -/
theorem close_none {w : World} {p : Option Addr} {l : List Sl} (t : Ty) {A3 A4 : Option Addr} {c3 c4 : Nat} (hl : IsEnv w none p l) (hr : RT w t A3 c3 A4 c4) : Calls Try.prog 29 #[.pointer p, tv t A3 c3 A4 c4] w (CloseOut w t) := by
  obtain ⟨kT, kR, b0⟩ := two_boxes w #[.int .i64 t.f0, .int .i64 t.f1, .string t.f2, .slice A3 t.f3.length c3, .slice A4 t.f4.length c4] #[.int .i64 0, .int .i64 0, .string ⟨#[]⟩, .slice none 0 0, .slice none 0 0] 31
  obtain ⟨⟨p0, p1, p2, p3, p4⟩, _, lp⟩ := five kT
  obtain ⟨⟨r0, r1, r2, r3, r4⟩, ⟨s0, s1, s2, s3, s4⟩, lr⟩ := five kR
  have kS := stored kR (.int .i64 t.f0) (.int .i64 t.f1) (.string t.f2) (.slice A3 t.f3.length c3) (.slice A4 t.f4.length c4)
  have bS := below5 b0 (g := w.heap.size + 1) (by omega) (.int .i64 t.f0) (.int .i64 t.f1) (.string t.f2) (.slice A3 t.f3.length c3) (.slice A4 t.f4.length c4)
  have KS := Aside0.mk kS
  have BS := Aside0.mk bS
  have hW := two_boxes w #[.int .i64 t.f0, .int .i64 t.f1, .string t.f2, .slice A3 t.f3.length c3, .slice A4 t.f4.length c4] #[.int .i64 t.f0, .int .i64 t.f1, .string t.f2, .slice A3 t.f3.length c3, .slice A4 t.f4.length c4] 31
  have HW := Aside0.mk hW
  clear kS bS hW kT kR b0
  cases p with
  | none =>
    go_enter Try.func29, Try.ntmps29
    go_wp2
    refine bodyPost_ret (results_cell_row rfl _ _ (w.heap.size + 1) 31 _ (0, 0) _ rfl HW.out.2.1 Try.underlying31 rfl (by kernel_rfl)) rfl ?_
    exact CloseOut.mk HW.out.2.2 (hr.below HW.out.2.2)
  | some a =>
    obtain ⟨b, rfl, hbl, ht⟩ := env_types hl
    have htE := cell_up HW.out.2.2 ht
    have ht2 := cell_up (chain (below_alloc1 w (.cells #[.int .i64 t.f0, .int .i64 t.f1, .string t.f2, .slice A3 t.f3.length c3, .slice A4 t.f4.length c4] 31)) (below_alloc1 _ (.cells #[.int .i64 0, .int .i64 0, .string ⟨#[]⟩, .slice none 0 0, .slice none 0 0] 31))) ht
    go_enter Try.func29, Try.ntmps29
    go_wp2
    refine bodyPost_ret (results_cell_row rfl _ _ (w.heap.size + 1) 31 _ (0, 0) _ rfl HW.out.2.1 Try.underlying31 rfl (by kernel_rfl)) rfl ?_
    exact CloseOut.mk HW.out.2.2 (hr.below HW.out.2.2)
set_option maxHeartbeats 4000000 in
set_option maxRecDepth 100000 in
/-- Of an environment with type names. -/
theorem close_f {w : World} {tp p : Option Addr} {l : List Sl} (t : Ty) (names : List ByteArray) (from' : Int) {k : Nat} {r1 r2 : Int} {r3 : ByteArray} {r4 : List ByteArray} {r5 : List Ty} (h : subst_Seal.f k t.f0 t.f1 t.f2 t.f3 t.f4 names from' = some (r1, r2, r3, r4, r5)) {ok : Nat → Prop} (hok : ∀ k, ok k → k < w.heap.size) {A3 A4 : Option Addr} {c3 c4 : Nat} (hl : IsEnv w tp p l) (hT : IsTys w tp names from') (hr : FT w ok t A3 c3 A4 c4) :
    Calls Try.prog 29 #[.pointer p, tv t A3 c3 A4 c4] w (CloseFut w ok ⟨r1, r2, r3, r4, r5⟩) := by
  obtain ⟨kT, kR, b0⟩ := two_boxes w #[.int .i64 t.f0, .int .i64 t.f1, .string t.f2, .slice A3 t.f3.length c3, .slice A4 t.f4.length c4] #[.int .i64 0, .int .i64 0, .string ⟨#[]⟩, .slice none 0 0, .slice none 0 0] 31
  obtain ⟨⟨p0, p1, p2, p3, p4⟩, _, lp⟩ := five kT
  obtain ⟨⟨z0, z1, z2, z3, z4⟩, ⟨s0, s1, s2, s3, s4⟩, lr⟩ := five kR
  obtain ⟨bt, A, c, rfl, hbt, hlc, hC⟩ := hT
  cases p with
  | none => obtain ⟨_, h⟩ := nil_env hl; cases h
  | some a =>
    obtain ⟨b, rfl, hbl, ht⟩ := env_types hl
    have htE := cell_up b0 ht
    obtain ⟨⟨q0, q1⟩, lq⟩ := two (blk_up b0 hbt)
    have lbt := (two hbt).2
    have hr0 := hr.below b0
    have hC0 := Kd.C_below hC b0
    have B0 := Aside0.mk b0
    have KR := Aside0.mk kR
    have H := Aside0.mk h
    clear h hC hr ht hbt hl kT kR b0
    go_enter Try.func29, Try.ntmps29
    go_wp2_with fail
    generalize hX : (w.alloc (.cells #[.int .i64 t.f0, .int .i64 t.f1, .string t.f2, .slice A3 t.f3.length c3, .slice A4 t.f4.length c4] 31)).alloc (.cells #[.int .i64 0, .int .i64 0, .string ⟨#[]⟩, .slice none 0 0, .slice none 0 0] 31) = X at p0 p1 p2 p3 p4 z0 z1 z2 z3 z4 s0 s1 s2 s3 s4 lp lr htE q0 q1 lq hr0 hC0 B0 KR ⊢
    clear hX
    have nR : w.heap.size + 1 < X.heap.size := lr
    refine wp_region_held_drew (S := (fun w' => w'.cell? ⟨w.heap.size, 0, none⟩ = some (.int .i64 t.f0) ∧ w'.cell? ⟨w.heap.size, 1, none⟩ = some (.int .i64 t.f1) ∧ w'.cell? ⟨w.heap.size, 2, none⟩ = some (.string t.f2) ∧ w'.cell? ⟨w.heap.size, 3, none⟩ = some (.slice A3 t.f3.length c3) ∧ w'.cell? ⟨w.heap.size, 4, none⟩ = some (.slice A4 t.f4.length c4) ∧ w'.cell? ⟨b, 13, none⟩ = some (.pointer (some ⟨bt, 0, none⟩)) ∧ w'.cell? ⟨bt, 0, none⟩ = some (.slice A names.length c) ∧ w'.cell? ⟨bt, 1, none⟩ = some (.int .i64 from'))) (by kernel_rfl) ?_ (fun hHeld => ?_)
    · (try dsimp only)
      exact ⟨p0, p1, p2, p3, p4, htE, q0, q1⟩
    (first | (refine take_held (i := 0) (d := (some 15)) (v := ?_) rfl rfl (by kernel_rfl) (by kernel_rfl) (by kernel_rfl) (fun _ _ _ h => h) (Or.inl ⟨by rfl, ?_⟩) (by assumption) ?_; rotate_left 1; focus ((intro w hSw; (try dsimp only at hSw); first | (go_simp; done) | (go_simp; with_reducible rfl)); done); (try simp only [Act.put, List.setIfInBounds_toArray, List.set_cons_zero, List.set_cons_succ])))
    (try simp only [Act.put, List.setIfInBounds_toArray, List.set_cons_zero, List.set_cons_succ])
    (first | (refine take_held (i := 1) (d := (some 16)) (v := ?_) rfl rfl (by kernel_rfl) (by kernel_rfl) (by kernel_rfl) (fun _ _ _ h => h) (Or.inl ⟨by rfl, ?_⟩) (by assumption) ?_; rotate_left 1; focus ((intro w hSw; (try dsimp only at hSw); first | (go_simp; done) | (go_simp; with_reducible rfl)); done); (try simp only [Act.put, List.setIfInBounds_toArray, List.set_cons_zero, List.set_cons_succ])))
    (try simp only [Act.put, List.setIfInBounds_toArray, List.set_cons_zero, List.set_cons_succ])
    (first | (refine take_held (i := 2) (d := (some 17)) (v := ?_) rfl rfl (by kernel_rfl) (by kernel_rfl) (by kernel_rfl) (fun _ _ _ h => h) (Or.inl ⟨by rfl, ?_⟩) (by assumption) ?_; rotate_left 1; focus ((intro w hSw; (try dsimp only at hSw); first | (go_simp; done) | (go_simp; with_reducible rfl)); done); (try simp only [Act.put, List.setIfInBounds_toArray, List.set_cons_zero, List.set_cons_succ])))
    (try simp only [Act.put, List.setIfInBounds_toArray, List.set_cons_zero, List.set_cons_succ])
    (first | (refine take_held (i := 3) (d := (some 18)) (v := ?_) rfl rfl (by kernel_rfl) (by kernel_rfl) (by kernel_rfl) (fun _ _ _ h => h) (Or.inl ⟨by rfl, ?_⟩) (by assumption) ?_; rotate_left 1; focus ((intro w hSw; (try dsimp only at hSw); first | (go_simp; done) | (go_simp; with_reducible rfl)); done); (try simp only [Act.put, List.setIfInBounds_toArray, List.set_cons_zero, List.set_cons_succ])))
    (try simp only [Act.put, List.setIfInBounds_toArray, List.set_cons_zero, List.set_cons_succ])
    (first | (refine take_held (i := 4) (d := (some 19)) (v := ?_) rfl rfl (by kernel_rfl) (by kernel_rfl) (by kernel_rfl) (fun _ _ _ h => h) (Or.inl ⟨by rfl, ?_⟩) (by assumption) ?_; rotate_left 1; focus ((intro w hSw; (try dsimp only at hSw); first | (go_simp; done) | (go_simp; with_reducible rfl)); done); (try simp only [Act.put, List.setIfInBounds_toArray, List.set_cons_zero, List.set_cons_succ])))
    (try simp only [Act.put, List.setIfInBounds_toArray, List.set_cons_zero, List.set_cons_succ])
    (first | (refine take_held (i := 5) (d := (some 20)) (v := ?_) rfl rfl (by kernel_rfl) (by kernel_rfl) (by kernel_rfl) (fun _ _ _ h => h) (Or.inl ⟨by rfl, ?_⟩) (by assumption) ?_; rotate_left 1; focus ((intro w hSw; (try dsimp only at hSw); first | (go_simp; done) | (go_simp; with_reducible rfl)); done); (try simp only [Act.put, List.setIfInBounds_toArray, List.set_cons_zero, List.set_cons_succ])))
    (try simp only [Act.put, List.setIfInBounds_toArray, List.set_cons_zero, List.set_cons_succ])
    (first | (refine take_held (i := 6) (d := (some 21)) (v := ?_) rfl rfl (by kernel_rfl) (by kernel_rfl) (by kernel_rfl) (fun _ _ _ h => h) (Or.inl ⟨by rfl, ?_⟩) (by assumption) ?_; rotate_left 1; focus ((intro w hSw; (try dsimp only at hSw); first | (go_simp; done) | (go_simp; with_reducible rfl)); done); (try simp only [Act.put, List.setIfInBounds_toArray, List.set_cons_zero, List.set_cons_succ])))
    (try simp only [Act.put, List.setIfInBounds_toArray, List.set_cons_zero, List.set_cons_succ])
    (first | (refine take_held (i := 7) (d := (some 22)) (v := ?_) rfl rfl (by kernel_rfl) (by kernel_rfl) (by kernel_rfl) (fun _ _ _ h => h) (Or.inl ⟨by rfl, ?_⟩) (by assumption) ?_; rotate_left 1; focus ((intro w hSw; (try dsimp only at hSw); first | (go_simp; done) | (go_simp; with_reducible rfl)); done); (try simp only [Act.put, List.setIfInBounds_toArray, List.set_cons_zero, List.set_cons_succ])))
    (try simp only [Act.put, List.setIfInBounds_toArray, List.set_cons_zero, List.set_cons_succ])
    (first | (refine take_held (i := 8) (d := (some 23)) (v := ?_) rfl rfl (by kernel_rfl) (by kernel_rfl) (by kernel_rfl) (fun _ _ _ h => h) (Or.inl ⟨by rfl, ?_⟩) (by assumption) ?_; rotate_left 1; focus ((intro w hSw; (try dsimp only at hSw); first | (go_simp; done) | (go_simp; with_reducible rfl)); done); (try simp only [Act.put, List.setIfInBounds_toArray, List.set_cons_zero, List.set_cons_succ])))
    (try simp only [Act.put, List.setIfInBounds_toArray, List.set_cons_zero, List.set_cons_succ])
    (first | (refine take_held (i := 9) (d := (some 24)) (v := ?_) rfl rfl (by kernel_rfl) (by kernel_rfl) (by kernel_rfl) (fun _ _ _ h => h) (Or.inl ⟨by rfl, ?_⟩) (by assumption) ?_; rotate_left 1; focus ((intro w hSw; (try dsimp only at hSw); first | (go_simp; done) | (go_simp; with_reducible rfl)); done); (try simp only [Act.put, List.setIfInBounds_toArray, List.set_cons_zero, List.set_cons_succ])))
    (try simp only [Act.put, List.setIfInBounds_toArray, List.set_cons_zero, List.set_cons_succ])
    (first | (refine take_held (i := 10) (d := (some 25)) (v := ?_) rfl rfl (by kernel_rfl) (by kernel_rfl) (by kernel_rfl) (fun _ _ _ h => h) (Or.inl ⟨by rfl, ?_⟩) (by assumption) ?_; rotate_left 1; focus ((intro w hSw; (try dsimp only at hSw); first | (go_simp; done) | (go_simp; with_reducible rfl)); done); (try simp only [Act.put, List.setIfInBounds_toArray, List.set_cons_zero, List.set_cons_succ])))
    (try simp only [Act.put, List.setIfInBounds_toArray, List.set_cons_zero, List.set_cons_succ])
    (first | (refine take_held (i := 11) (d := (some 26)) (v := ?_) rfl rfl (by kernel_rfl) (by kernel_rfl) (by kernel_rfl) (fun _ _ _ h => h) (Or.inl ⟨by rfl, ?_⟩) (by assumption) ?_; rotate_left 1; focus ((intro w hSw; (try dsimp only at hSw); first | (go_simp; done) | (go_simp; with_reducible rfl)); done); (try simp only [Act.put, List.setIfInBounds_toArray, List.set_cons_zero, List.set_cons_succ])))
    (try simp only [Act.put, List.setIfInBounds_toArray, List.set_cons_zero, List.set_cons_succ])
    (first | (refine take_held (i := 12) (d := (some 27)) (v := ?_) rfl rfl (by kernel_rfl) (by kernel_rfl) (by kernel_rfl) (fun _ _ _ h => h) (Or.inl ⟨by rfl, ?_⟩) (by assumption) ?_; rotate_left 1; focus ((intro w hSw; (try dsimp only at hSw); first | (go_simp; done) | (go_simp; with_reducible rfl)); done); (try simp only [Act.put, List.setIfInBounds_toArray, List.set_cons_zero, List.set_cons_succ])))
    (try simp only [Act.put, List.setIfInBounds_toArray, List.set_cons_zero, List.set_cons_succ])
    (first | (refine take_held (i := 13) (d := (some 28)) (v := ?_) rfl rfl (by kernel_rfl) (by kernel_rfl) (by kernel_rfl) (fun _ _ _ h => h) (Or.inl ⟨by rfl, ?_⟩) (by assumption) ?_; rotate_left 1; focus ((intro w hSw; (try dsimp only at hSw); first | (go_simp; done) | (go_simp; with_reducible rfl)); done); (try simp only [Act.put, List.setIfInBounds_toArray, List.set_cons_zero, List.set_cons_succ])))
    (try simp only [Act.put, List.setIfInBounds_toArray, List.set_cons_zero, List.set_cons_succ])
    (first | (refine take_held (i := 14) (d := (some 29)) (v := ?_) rfl rfl (by kernel_rfl) (by kernel_rfl) (by kernel_rfl) (fun _ _ _ h => h) (Or.inl ⟨by rfl, ?_⟩) (by assumption) ?_; rotate_left 1; focus ((intro w hSw; (try dsimp only at hSw); first | (go_simp; done) | (go_simp; with_reducible rfl)); done); (try simp only [Act.put, List.setIfInBounds_toArray, List.set_cons_zero, List.set_cons_succ])))
    (try simp only [Act.put, List.setIfInBounds_toArray, List.set_cons_zero, List.set_cons_succ])
    (first
      | (refine wpAnyH_ready (rs := [15]) (by kernel_rfl) (by simp) ?_; refine AllReadyH.cons (o := _) rfl (fun K hK => ?_) AllReadyH.nil; go_simp; (go_at_call 46; with_reducible refine (seal_c t names from' H.out (FT.below hr0 (Below.refl _ _).drew) (Kd.C_below hC0 (Below.refl _ _).drew) hlc).mono ?_; rintro e w5 ⟨B3, d3, B4, d4, rfl, hr5, hb5⟩; obtain ⟨⟨x0, x1, x2, x3, x4⟩, ⟨f0, f1, f2, f3, f4⟩, lx⟩ := five (blk_below (blk_drew KR.out) hb5)); (try go_wp2_with fail); refine hK.out _ _ (by (try dsimp only); exact ⟨cell_up hb5 p0, cell_up hb5 p1, cell_up hb5 p2, cell_up hb5 p3, cell_up hb5 p4, cell_up hb5 htE, cell_up hb5 q0, cell_up hb5 q1⟩) ?_; clear hHeld hK K; intro hHeld; (try simp only [Act.put, List.setIfInBounds_toArray, List.set_cons_zero, List.set_cons_succ])))
    (first
      | (refine wpAnyH_ready (rs := [16]) (by kernel_rfl) (by simp) ?_; refine AllReadyH.cons (o := _) rfl (fun K hK => ?_) AllReadyH.nil; go_simp; skip; (try go_wp2_with fail); refine hK.out _ _ (by (try dsimp only); (obtain ⟨h0, h1, h2, h3, h4, h5, h6, h7⟩ := hHeld; exact ⟨far5c h0 (by simp), far5c h1 (by simp), far5c h2 (by simp), far5c h3 (by simp), far5c h4 (by simp), far5c h5 (by dsimp only; omega), far5c h6 (by dsimp only; omega), far5c h7 (by dsimp only; omega)⟩)) ?_; clear hHeld hK K; intro hHeld; (try simp only [Act.put, List.setIfInBounds_toArray, List.set_cons_zero, List.set_cons_succ])))
    (try simp only [Act.put, List.setIfInBounds_toArray, List.set_cons_zero, List.set_cons_succ])
    refine wpAnyH_done (by kernel_rfl) ?_ _
    have kS := stored (blk_below (blk_drew KR.out) hb5) (.int .i64 r1) (.int .i64 r2) (.string r3) (.slice B3 r4.length d3) (.slice B4 r5.length d4)
    have lX : X.drew.heap.size = X.heap.size := rfl
    have hne : ∀ k, (ok k ∨ X.drew.heap.size ≤ k) → k ≠ w.heap.size + 1 := fun k hk => by rcases hk with hk | hk; (have := hok k hk; omega); omega
    have f5 := ((((hr5.far (p := ⟨w.heap.size + 1, 0, none⟩) hne (.int .i64 r1)).far (p := ⟨w.heap.size + 1, 1, none⟩) hne (.int .i64 r2)).far (p := ⟨w.heap.size + 1, 2, none⟩) hne (.string r3)).far (p := ⟨w.heap.size + 1, 3, none⟩) hne (.slice B3 r4.length d3)).far (p := ⟨w.heap.size + 1, 4, none⟩) hne (.slice B4 r5.length d4)
    have b5 := below5 (g := w.heap.size + 1) ((B0.out.drew).trans (hb5.mono (by have := B0.out.size; show _ ≤ X.heap.size; omega))) (by omega) (.int .i64 r1) (.int .i64 r2) (.string r3) (.slice B3 r4.length d3) (.slice B4 r5.length d4)
    generalize World.setCell (World.setCell _ _ _) ⟨w.heap.size + 1, 4, none⟩ _ = X1 at kS f5 b5 ⊢
    clear hHeld
    go_wp2
    refine bodyPost_ret (results_cell_row rfl _ _ (w.heap.size + 1) 31 _ (0, 0) _ rfl kS Try.underlying31 rfl (by kernel_rfl)) rfl ?_
    have szX := B0.out.size
    exact CloseFut.mk b5 (f5.mono (fun k hk => hk.imp id (fun hk => by omega)))
theorem close_c {w : World} {tp p : Option Addr} {l : List Sl} (t : Ty) (names : List ByteArray) (from' : Int) {k : Nat} {r1 r2 : Int} {r3 : ByteArray} {r4 : List ByteArray} {r5 : List Ty} (h : subst_Seal.f k t.f0 t.f1 t.f2 t.f3 t.f4 names from' = some (r1, r2, r3, r4, r5)) {A3 A4 : Option Addr} {c3 c4 : Nat} (hl : IsEnv w tp p l) (hT : IsTys w tp names from') (hr : RT w t A3 c3 A4 c4) :
    Calls Try.prog 29 #[.pointer p, tv t A3 c3 A4 c4] w (CloseOut w ⟨r1, r2, r3, r4, r5⟩) :=
  (close_f t names from' h (fun _ hk => hk) hl hT hr.ft).mono fun e w' ⟨B3, d3, B4, d4, he, hf, hb⟩ => ⟨B3, d3, B4, d4, he, hf.rt, hb⟩
end Go.Proofs.Ytalmhbiedkjpmaa.PEnvPlays

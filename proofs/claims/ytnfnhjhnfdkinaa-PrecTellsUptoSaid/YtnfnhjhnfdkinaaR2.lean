/-
  prec: the walk of the reference's Cut, for types of as many nodes as a machine holds.
-/
import Derived.Test.YtnfnhjhnfdkinaaF4
import Derived.Test.YtnfnhjhnfdkinaaF5
import Derived.Test.YtnfnhjhnfdkinaaF9
import Derived.Test.YtnfnhjhnfdkinaaR1
namespace Go.Proofs.Ytnfnhjhnfdkinaa.PPrecTells
open Go.RowKit Go.Proofs.YtnfnhjhnfdkinaaW.Mine Go.Proofs.YtnfnhjhnfdkinaaW.PrintWords Go.Proofs.YtnfnhjhnfdkinaaW.PrintLast Go.Proofs.YtnfnhjhnfdkinaaW.PrintMore
attribute [local go_sem] max2_int min2_int max_two min_two max_three min_three max_four min_four
set_option linter.unusedVariables false
set_option linter.unusedSimpArgs false
mutual
theorem cut_id : ∀ (x : Ty) (k : Int), (nodes x : Int) ≤ k → (cut x k).1 = x
  | ⟨a0, a1, a2, a3, a4⟩, k, h => by
    rw [nodes_eq] at h
    rw [cut_eq, if_neg (by omega), if_neg (by omega), cutAll_id a4 (k - 1) (by simp only at h; omega)]
theorem cutAll_id : ∀ (l : List Ty) (k : Int), (nodesAll l : Int) ≤ k → (cutAll l k).1 = l
  | [], k, h => by rw [cutAll_nil]
  | a :: l, k, h => by
    have e : nodesAll (a :: l) = nodes a + nodesAll l := by simp only [nodesAll]
    have h1 : (nodes a : Int) ≤ k := by omega
    have h2 := (cut_count a k (by omega)).2 h1
    rw [cutAll_cons, cut_id a k h1, h2, cutAll_id l (k - nodes a) (by omega)]
end
/-- What the loop leaves of a list: the count, and where it stands. -/
def rc : List Ty → Int → Int → List Ty
  | [], _, _ => []
  | a :: l, k, p => (if p ≤ k ∧ k < p + nodes a then (cut a (k - p)).1 else a) :: rc l k (p + nodes a)
theorem rc_low : ∀ (l : List Ty) (k p : Int), k < p → rc l k p = l
  | [], _, _, _ => rfl
  | a :: l, k, p, h => by
    rw [rc, if_neg (by omega), rc_low l k _ (by omega)]
theorem rc_cut : ∀ (l : List Ty) (k p : Int), p ≤ k → rc l k p = (cutAll l (k - p)).1
  | [], k, p, _ => by rw [cutAll_nil]; rfl
  | a :: l, k, p, h => by
    rw [rc, cutAll_cons]
    by_cases h1 : k < p + nodes a
    · have h2 := (cut_count a (k - p) (by omega)).1 (by omega)
      rw [if_pos ⟨h, h1⟩, rc_low l k _ h1, h2, cutAll_none]
    · have h2 := (cut_count a (k - p) (by omega)).2 (by omega)
      rw [if_neg (by omega), h2, cut_id a (k - p) (by omega), rc_cut l k _ (by omega), show k - (p + (nodes a : Int)) = k - p - nodes a by omega]
theorem rc_drop (l : List Ty) (i : Nat) (hi : i < l.length) (k p : Int) : rc (l.drop i) k p = (if p ≤ k ∧ k < p + nodes l[i] then (cut l[i] (k - p)).1 else l[i]) :: rc (l.drop (i + 1)) k (p + nodes l[i]) := by
  rw [List.drop_eq_getElem_cons hi, rc]
theorem cutO_in {x : Ty} {k : Int} (h0 : 0 ≤ k) (h : k < nodes x) : cutO x k = some (cut x k).1 := by
  have h2 := (cut_count x k h0).1 h
  unfold cutO
  rw [if_neg (by omega), h2, if_neg (by omega)]
theorem cutO_out {x : Ty} {k : Int} (h : k < 0 ∨ (nodes x : Int) ≤ k) : cutO x k = none := by
  unfold cutO
  by_cases h0 : k < 0
  · rw [if_pos h0]
  · have h1 : (nodes x : Int) ≤ k := by omega
    have h2 := (cut_count x k (by omega)).2 h1
    rw [if_neg h0, h2, if_pos (by omega)]
theorem nodesAll_drop (l : List Ty) (i : Nat) (hi : i < l.length) : nodesAll (l.drop i) = nodes l[i] + nodesAll (l.drop (i + 1)) := by
  rw [List.drop_eq_getElem_cons hi]
  simp only [nodesAll]
theorem twob (w : World) (x : Ty) (A3 : Option Addr) (c3 : Nat) (A4 : Option Addr) (c4 : Nat) (zs : Array Value) : let W := ((w.alloc (.cells #[.int .i64 x.f0, .int .i64 x.f1, .string x.f2, .slice A3 x.f3.length c3, .slice A4 x.f4.length c4] 25)).alloc (.cells zs 25))
    (W.heap[w.heap.size]? = some (.cells #[.int .i64 x.f0, .int .i64 x.f1, .string x.f2, .slice A3 x.f3.length c3, .slice A4 x.f4.length c4] 25 (0, 0)) ∧ W.heap[w.heap.size + 1]? = some (.cells zs 25 (0, 0))) ∧ Below w.heap.size w W := by
  have kR := blk_new (w.alloc (.cells #[.int .i64 x.f0, .int .i64 x.f1, .string x.f2, .slice A3 x.f3.length c3, .slice A4 x.f4.length c4] 25)) (.cells zs 25)
  simp only [World.size_alloc] at kR
  exact ⟨⟨blk_alloc (blk_new w _) _, kR⟩, chain (below_alloc1 _ _) (below_alloc1 _ _)⟩
set_option maxHeartbeats 20000000 in
set_option maxRecDepth 100000 in
theorem rcut_c : ∀ (n : Nat) (x : Ty), SizeOf.sizeOf x < n → Sm x → nodes x ≤ 4611686018427387904 → ∀ (ok : Nat → Prop) (A3 : Option Addr) (c3 : Nat) (A4 : Option Addr) (c4 : Nat) (kv : Int) (w : World), FT w ok x A3 c3 A4 c4 → -9223372036854775808 ≤ kv → kv ≤ 9223372036854775807 →
    Calls Try.prog 17 #[tv x A3 c3 A4 c4, .int .i64 kv] w (COut w ok (cutO x kv))
  | 0, _, h, _, _ => absurd h (Nat.not_lt_zero _)
  | n + 1, x, hn, hsm, hnx => by
    intro ok0 A3 c3 A4 c4 kv w ha0 hk0 hk1
    have ha := ha0.bound
    obtain ⟨kn, en⟩ := (rnodes_f _ x (Nat.lt_succ_self _) hnx).rounds
    obtain ⟨⟨kA, kR⟩, b0⟩ := twob w x A3 c3 A4 c4 #[.int .i64 0, .int .i64 0, .string ⟨#[]⟩, .slice none 0 0, .slice none 0 0]
    obtain ⟨⟨p0, p1, p2, p3, p4⟩, _, la⟩ := five kA
    obtain ⟨⟨r0, r1, r2, r3, r4⟩, ⟨s0, s1, s2, s3, s4⟩, lr⟩ := five kR
    by_cases h1 : kv = 0
    · subst h1
      have hq := cutO_in (x := x) (Int.le_refl 0) (by rw [nodes_eq]; omega)
      rw [cut_eq, if_pos rfl] at hq
      go_enter Try.func17, Try.ntmps17
      go_wp2_with fail
      go_call (dyn_c _) as e w1 ⟨he, hb1⟩
      subst he
      have b1 := chain b0 hb1
      replace kR := blk_below kR hb1
      clear p0 p1 p2 p3 p4 la r0 r1 r2 r3 r4 s0 s1 s2 s3 s4 lr
      obtain ⟨⟨r0, r1, r2, r3, r4⟩, ⟨s0, s1, s2, s3, s4⟩, lr⟩ := five kR
      go_wp2
      (try simp only [Exit.inBlock, Exit.then]); refine bodyPost_ret (results_ct rfl _ _ _ 25 _ (0, 0) _ rfl (stored kR _ _ _ _ _) Try.underlying25 rfl (by kernel_rfl)) rfl ?_
      exact COut.yes (u := dynTy) (below_stored b1 (by omega) _ _ _ _ _) hq ⟨Nat.le_refl _, Kd.F_nil _ _ _, Nat.le_refl _, Kd.F_nil _ _ _⟩
    have e1 : decide (kv = 0) = false := decide_eq_false h1
    by_cases h2 : kv < 0
    · have hq := cutO_out (x := x) (.inl h2)
      have e2 : decide (kv < 0) = true := decide_eq_true h2
      go_enter Try.func17, Try.ntmps17
      go_wp2
      (try simp only [Exit.inBlock, Exit.then]); refine bodyPost_ret (results_ct rfl _ _ _ 25 _ (0, 0) _ rfl kR Try.underlying25 rfl (by kernel_rfl)) rfl ?_
      exact COut.no b0 hq
    have e2 : decide (kv < 0) = false := decide_eq_false h2
    by_cases h3 : (nodes x : Int) ≤ kv
    · have hq := cutO_out (x := x) (.inr h3)
      have e3 : decide ((nodes x : Int) ≤ kv) = true := decide_eq_true h3
      go_enter Try.func17, Try.ntmps17
      go_wp2_with fail
      go_call (nodes_c x en (ha.below b0)) as e w1 ⟨he, hb1⟩
      subst he
      have b1 := chain b0 hb1
      replace kR := blk_below kR hb1
      clear p0 p1 p2 p3 p4 la r0 r1 r2 r3 r4 s0 s1 s2 s3 s4 lr
      obtain ⟨⟨r0, r1, r2, r3, r4⟩, ⟨s0, s1, s2, s3, s4⟩, lr⟩ := five kR
      go_wp2
      (try simp only [Exit.inBlock, Exit.then]); refine bodyPost_ret (results_ct rfl _ _ _ 25 _ (0, 0) _ rfl (stored kR _ _ _ _ _) Try.underlying25 rfl (by kernel_rfl)) rfl ?_
      exact COut.no (below_stored b1 (by omega) _ _ _ _ _) hq
    have e3 : decide ((nodes x : Int) ≤ kv) = false := decide_eq_false h3
    have hq := cutO_in (x := x) (by omega) (by omega : kv < nodes x)
    rw [cut_eq, if_neg h1, if_neg h2, ← rc_cut x.f4 kv 1 (by omega)] at hq
    go_enter Try.func17, Try.ntmps17
    go_wp2_with fail
    go_call (nodes_c x en (ha.below b0)) as e w1 ⟨he, hb1⟩
    subst he
    have b1 := chain b0 hb1
    have szA : w.heap.size + 1 < w1.heap.size := Nat.lt_of_lt_of_le lr hb1.size
    have kA1 := blk_below kA hb1
    have kR1 := blk_below kR hb1
    clear p0 p1 p2 p3 p4 la r0 r1 r2 r3 r4 s0 s1 s2 s3 s4 lr
    clear b0 hb1 kA kR
    obtain ⟨⟨p0, p1, p2, p3, p4⟩, _, la⟩ := five kA1
    have BU := Aside0.mk (chain b1 (below_alloc1 w1 (.cells #[.int .i64 x.f0, .int .i64 x.f1, .string x.f2, .slice A3 x.f3.length c3, .slice A4 x.f4.length c4] 25)))
    have KA := Aside0.mk (blk_alloc kA1 (.cells #[.int .i64 x.f0, .int .i64 x.f1, .string x.f2, .slice A3 x.f3.length c3, .slice A4 x.f4.length c4] 25))
    have KR := Aside0.mk (blk_alloc kR1 (.cells #[.int .i64 x.f0, .int .i64 x.f1, .string x.f2, .slice A3 x.f3.length c3, .slice A4 x.f4.length c4] 25))
    have KU := Aside0.mk (blk_new w1 (.cells #[.int .i64 x.f0, .int .i64 x.f1, .string x.f2, .slice A3 x.f3.length c3, .slice A4 x.f4.length c4] 25))
    have szU : (w1.alloc (.cells #[.int .i64 x.f0, .int .i64 x.f1, .string x.f2, .slice A3 x.f3.length c3, .slice A4 x.f4.length c4] 25)).heap.size = w1.heap.size + 1 := by rw [World.size_alloc]
    have SZ := Aside0.mk szU
    have HQ := Aside0.mk hq
    have hfr : (fun k => (ok0 k ∧ k < w.heap.size) ∨ w1.heap.size < k) (w1.alloc (.cells #[.int .i64 x.f0, .int .i64 x.f1, .string x.f2, .slice A3 x.f3.length c3, .slice A4 x.f4.length c4] 25)).heap.size := .inr (by rw [szU]; exact Nat.lt_succ_self _)
    have hsl := hsm.len
    clear hq szU kA1 kR1
    go_wp2_with (first
      | ((with_reducible refine gate_dst (N := 23) rfl ?_); go_loud (refine Kd.N_lit kTy (w0 := w) w.heap.size 25 rfl (N' := 23) rfl (xs := ([] : List Ty)) (inner := []) (ok := (fun k => (ok0 k ∧ k < w.heap.size) ∨ w1.heap.size < k)) (okp := (fun k => (ok0 k ∧ k < w.heap.size) ∨ w1.heap.size < k)) (by first | (go_simp; done) | (go_simp; rfl)) (Reps.none _ _) (fun _ hk => hk) hfr BU.out BU.out.size (by simp) ?_; intro v1 w2 hN1 hB1 hg1 hat1; obtain ⟨A1, c1, rfl⟩ := Kd.N_slice hN1; obtain ⟨⟨q0, q1, q2, q3, q4⟩, _, _⟩ := five (blk_grown KA.out hg1 (by simp))))
      | (at_builtin; go_loud (refine Kd.N_append_rows kTy (w0 := w) w.heap.size rfl (.tmp 23) (.tmp 25) 23 25 (.agg #[(.int .i64 0), (.int .i64 0), (.string ⟨#[]⟩), (.slice none 0 0), (.slice none 0 0)]) 80 rfl Try.underlying23 info25 rfl (by decide) (by omega) (.slice A1 ([] : List Ty).length c1) [] x.f4 A4 x.f4.length c4 (fun k => (ok0 k ∧ k < w.heap.size) ∨ w1.heap.size < k) (fun k => ok0 k ∧ k < w.heap.size) rfl rfl hN1 (ha.below hB1).2.2.2 (fun k hk => ⟨.inl hk, fun he => by have := Kd.N_base hN1 k he.symm; have := hk.2; omega⟩) (fun k hk => .inr (by obtain ⟨gb, hgb, hgl⟩ := hat1; have h1 := SZ.out; have h2 := Kd.N_lt hN1 gb hgb; omega)) hB1 hB1.size (by simp; omega) ?_; intro v2 w3 hN2 hB2 hg2 hat2; obtain ⟨A2, c2, rfl⟩ := Kd.N_slice hN2; rw [List.nil_append] at hN2 ⊢; have hown : ∀ g, g ≤ w1.heap.size → some g ≠ (Value.slice A1 ([] : List Ty).length c1).ownBlock := fun g hg he => (by obtain ⟨gb, hgb, hgl⟩ := hat1; have h1 := SZ.out; rw [hgb] at he; cases he; omega); have kU := blk_grown (blk_grown KU.out hg1 (by simp)) hg2 (hown _ (Nat.le_refl _)); have kA := blk_grown (blk_grown KA.out hg1 (by simp)) hg2 (hown _ (by omega)); have kR := blk_grown (blk_grown KR.out hg1 (by simp)) hg2 (hown _ (by omega)); obtain ⟨⟨u0, u1, u2, u3, u4⟩, ⟨t0, t1, t2, t3, t4⟩, lu⟩ := five kU)))
    clear p0 p1 p2 p3 p4 la q0 q1 q2 q3 q4 u0 u1 u2 u3 u4 t0 t1 t2 t3 t4 hg1 hat1 hN1 hB1 hg2 hat2 hown KA KR KU BU SZ hfr b1
    have HO := Kd.N_far hN2 (p := ⟨w1.heap.size, 4, none⟩) (fun k hk => by dsimp only; rcases hk with hk | hk; (have := hk.2; omega); omega) (.slice A2 x.f4.length c2)
    have bX : Below w.heap.size w (w3.setCell ⟨w1.heap.size, 4, none⟩ (.slice A2 x.f4.length c2)) := below_set hB2 (by omega)
    replace kA := blk_far kA (p := ⟨w1.heap.size, 4, none⟩) (by dsimp only; omega) (.slice A2 x.f4.length c2)
    replace kR := blk_far kR (p := ⟨w1.heap.size, 4, none⟩) (by dsimp only; omega) (.slice A2 x.f4.length c2)
    replace kU := blk_set kU 4 (.slice A2 x.f4.length c2)
    generalize hX0 : w3.setCell _ _ = X0 at kA kR kU HO bX ⊢
    generalize hgU : w1.heap.size = gU at kU HO szA lu ⊢
    clear hX0 hN2 hB2 hgU
    go_loopg [7, 8] x.f4.length (fun kq v7 v8 w' => ∃ (i : Nat) (dn : List Ty) (p : Int), v7 = .int .i64 p ∧ v8 = .int .i64 i ∧ kq + i = x.f4.length ∧ Aside0 (dn.length = i) ∧ Aside0 (rc x.f4 kv 1 = dn ++ rc (x.f4.drop i) kv p) ∧ Aside0 (1 ≤ p ∧ p + (nodesAll (x.f4.drop i) : Int) = nodes x) ∧ Kd.N kTy 25 w' w.heap.size (fun k => (ok0 k ∧ k < w.heap.size) ∨ gU < k) (.slice A2 x.f4.length c2) (dn ++ x.f4.drop i) ∧ w'.heap[gU]? = some (.cells #[.int .i64 x.f0, .int .i64 x.f1, .string x.f2, .slice A3 x.f3.length c3, .slice A2 x.f4.length c2] 25 (0, 0)) ∧ w'.heap[w.heap.size]? = some (.cells #[.int .i64 x.f0, .int .i64 x.f1, .string x.f2, .slice A3 x.f3.length c3, .slice A4 x.f4.length c4] 25 (0, 0)) ∧ w'.heap[w.heap.size + 1]? = some (.cells #[.int .i64 0, .int .i64 0, .string ⟨#[]⟩, .slice none 0 0, .slice none 0 0] 25 (0, 0)) ∧ Below w.heap.size w w')
    case atStart => exact ⟨0, [], 1, rfl, rfl, rfl, ⟨rfl⟩, ⟨rfl⟩, ⟨Int.le_refl _, by rw [List.drop_zero, nodes_eq]; omega⟩, HO, kU, kA, kR, bX⟩
    case round =>
      clear kU kA kR HO bX
      obtain ⟨i, dn, p, rfl, rfl, hk, HDL, HC, HP, HO, kU, kA, kR, br⟩ := hrel
      obtain ⟨⟨p0, p1, p2, p3, p4⟩, _, la⟩ := five kA
      obtain ⟨⟨u0, u1, u2, u3, u4⟩, ⟨t0, t1, t2, t3, t4⟩, lu⟩ := five kU
      obtain ⟨⟨r0, r1, r2, r3, r4⟩, ⟨s0, s1, s2, s3, s4⟩, lr⟩ := five kR
      by_cases hi : i < x.f4.length
      · obtain ⟨k1, rfl⟩ : ∃ k1, gk = k1 + 1 := ⟨gk - 1, by omega⟩
        have ci : decide ((i : Int) < (x.f4.length : Int)) = true := decide_eq_true (by omega)
        have i0 : (0 : Int) ≤ (i : Int) := by omega
        have i1 : (i : Int) < (x.f4.length : Int) := by omega
        have hlen : (dn ++ x.f4.drop i).length = x.f4.length := by rw [List.length_append, List.length_drop, HDL.out]; omega
        obtain ⟨gv, cap, hv, hgv, hgv2, _⟩ := Kd.N_form HO (by omega)
        injection hv with hAv hln hcp
        clear hln hcp
        subst hAv
        have hgu : gU < gv := by
          rcases HO.1 gv (by simp [Value.ownBlock]) with h | h
          · have := h.2; omega
          · exact h
        obtain ⟨ad, X3, e3, X4, e4, hA, fx, x0, x1, x2, x3, x4⟩ := elt' ha.2.2.2 i hi
        subst hA
        have nxb : ¬ ((ad.add (i * 5)).block = gv) := by have := World.block_lt_of_cell? w _ x0; omega
        have nd := nodesAll_drop x.f4 i hi
        have HD := Aside0.mk nd
        have hni : nodes x.f4[i] ≤ 4611686018427387904 := by have := HP.out.2; have := HP.out.1; omega
        clear nd
        obtain ⟨km, em⟩ := (rnodes_f _ x.f4[i] (Nat.lt_succ_self _) hni).rounds
        replace x0 := cell_up br x0
        replace x1 := cell_up br x1
        replace x2 := cell_up br x2
        replace x3 := cell_up br x3
        replace x4 := cell_up br x4
        have HLN := Aside0.mk hlen
        have HGV := Aside0.mk (And.intro hgv (And.intro hgv2 hgu))
        have HK := Aside0.mk hk
        clear hlen hgv hgv2 hgu hk
        go_wp2_with fail
        go_call (nodes_c x.f4[i] em (fx.below br)) as e w5 ⟨he, hb5⟩
        subst he
        replace br := chain br hb5
        replace kA := blk_below kA hb5
        replace kR := blk_below kR hb5
        replace kU := blk_below kU hb5
        replace HO := Kd.N_below HO hb5
        replace x0 := cell_up hb5 x0
        replace x1 := cell_up hb5 x1
        replace x2 := cell_up hb5 x2
        replace x3 := cell_up hb5 x3
        replace x4 := cell_up hb5 x4
        have hgv5 : gv < w5.heap.size := Nat.lt_of_lt_of_le HGV.out.2.1 hb5.size
        clear p0 p1 p2 p3 p4 la r0 r1 r2 r3 r4 s0 s1 s2 s3 s4 lr u0 u1 u2 u3 u4 t0 t1 t2 t3 t4 hb5 ci
        obtain ⟨⟨p0, p1, p2, p3, p4⟩, _, la⟩ := five kA
        obtain ⟨⟨u0, u1, u2, u3, u4⟩, ⟨t0, t1, t2, t3, t4⟩, lu'⟩ := five kU
        obtain ⟨hp1, hpn⟩ := HP.out
        have hpn' : p + (nodes x.f4[i] : Int) ≤ nodes x := by have := HD.out; omega
        have hw1 : wrap64 (p + (nodes x.f4[i] : Int)) = p + (nodes x.f4[i] : Int) := wrapn (by omega) (by omega)
        have hw2 : IntKind.i64.wrap (p + (nodes x.f4[i] : Int)) = p + (nodes x.f4[i] : Int) := IntWalk.i64_in _ (by omega)
        have hpe : p + (nodes x.f4[i] : Int) + (nodesAll (x.f4.drop (i + 1)) : Int) = nodes x := by have := HD.out; omega
        have HPE := Aside0.mk hpe
        clear hpn hpe
        by_cases hc1 : p ≤ kv
        · have c1 : decide (p ≤ kv) = true := decide_eq_true hc1
          by_cases hc2 : kv < p + (nodes x.f4[i] : Int)
          · have c2' : decide (kv < p + (nodes x.f4[i] : Int)) = true := decide_eq_true hc2
            have hw3 : wrap64 (kv - p) = kv - p := wrapn (by omega) (by omega)
            have hw4 : IntKind.i64.wrap (kv - p) = kv - p := IntWalk.i64_in _ (by omega)
            have hci := cutO_in (x := x.f4[i]) (k := kv - p) (by omega) (by omega)
            have hsz : SizeOf.sizeOf x.f4[i] < n := by have := size_args x x.f4[i] (List.getElem_mem hi); omega
            have hsmi := hsm.all _ (List.getElem_mem hi)
            have hk5 : -9223372036854775808 ≤ kv - p := by omega
            have hk6 : kv - p ≤ 9223372036854775807 := by omega
            have HCI := Aside0.mk hci
            have nA : ¬ (w.heap.size = gv) := by have := HGV.out.2.2; omega
            have nU : ¬ (gU = gv) := by have := HGV.out.2.2; omega
            clear hci
            go_wp2_with fail
            go_region_held3 (fun w' => Kq (fun k => k = gv) w5 w' ∧ w'.cell? ⟨w.heap.size, 4, none⟩ = some (.slice (some ad) x.f4.length c4) ∧ w'.cell? ⟨gU, 4, none⟩ = some (.slice (some ⟨gv, 0, none⟩) x.f4.length c2) ∧ w'.cell? (ad.add (i * 5)) = some (.int .i64 x.f4[i].f0) ∧ w'.cell? ⟨(ad.add (i * 5)).block, (ad.add (i * 5)).off + 1, none⟩ = some (.int .i64 x.f4[i].f1) ∧ w'.cell? ⟨(ad.add (i * 5)).block, (ad.add (i * 5)).off + 2, none⟩ = some (.string x.f4[i].f2) ∧ w'.cell? ⟨(ad.add (i * 5)).block, (ad.add (i * 5)).off + 3, none⟩ = some (.slice X3 x.f4[i].f3.length e3) ∧ w'.cell? ⟨(ad.add (i * 5)).block, (ad.add (i * 5)).off + 4, none⟩ = some (.slice X4 x.f4[i].f4.length e4))
              ((refine and_of' (fun hK_ => ⟨hK_.cell p4 nA, hK_.cell u4 nU, hK_.cell x0 nxb, hK_.cell x1 nxb, hK_.cell x2 nxb, hK_.cell x3 nxb, hK_.cell x4 nxb⟩) ?_; first | (with_reducible exact Kq.of_below (Below.refl _ _).drew) | (with_reducible exact Kq.refl _ _) | (with_reducible exact Kq.trans (And.left (by assumption)) (Kq.of_below (by assumption))) | ((repeat' (with_reducible refine Kq.set ?_ ?_ _)) <;> first | (exact (.inl rfl)) | (with_reducible exact And.left (by assumption)))))
              (first
                | (go_at_call 17; refine (rcut_c n x.f4[i] hsz hsmi hni (fun k => ok0 k ∧ k < w.heap.size) X3 e3 X4 e4 (kv - p) _ (fx.below (by first | exact br | exact br.drew)) hk5 hk6).mono ?_; rw [HCI.out]; rintro e w6 ⟨hb6, C3, h3, C4, h4, rfl, hft⟩; have HO6 := Kd.N_below (by first | exact HO | exact Kd.N_drew HO) hb6; obtain ⟨a0, a1, a2, a3, a4, hcells, hfroz⟩ := slot HO6 i hi))
            rename_i hH
            have hgo := HGV.out
            have hft' : FT w6 (fun k => (ok0 k ∧ k < w.heap.size) ∨ w5.heap.size ≤ k) (cut x.f4[i] (kv - p)).1 C3 h3 C4 h4 := hft.mono (fun k hk => by rcases hk with hk | hk; exact .inl hk; exact .inr (by simpa using hk))
            have hp := put_c HO6 hi hft' (fun k hk => ⟨by rcases hk with hk | hk; exact .inl hk; exact .inr (by omega), by rcases hk with hk | hk; (have := hk.2; omega); omega⟩)
            rw [setCells5] at hp
            have hH1 := hH.1
            clear hH hft hft' hcells hfroz HO6 hb6
            generalize hX1 : World.setCell (World.setCell _ _ _) ⟨_, i * 5 + 4, none⟩ _ = X1 at hp hH1 ⊢
            have q1 : Kq (fun k => k = gv) w X1 := (Kq.of_below (S := fun k => k = gv) br).trans hH1
            have b1 := q1.below (Nat.le_refl _) (fun k hk he => by omega)
            replace kA := hH1.blk kA (by omega)
            replace kR := hH1.blk kR (by omega)
            replace kU := hH1.blk kU (by omega)
            have HP1 := Aside0.mk hp.1
            clear hp hX1 hH1 q1 p0 p1 p2 p3 p4 u0 u1 u2 u3 u4 t0 t1 t2 t3 t4 x0 x1 x2 x3 x4 la lu' HO hgo
            go_wp2
            go_roundg k1
            case measure => omega
            case rel => exact ⟨i + 1, dn ++ [(cut x.f4[i] (kv - p)).1], p + nodes x.f4[i], (by first | rfl | rw [hw1]), (by first | rfl | (simp; done) | (push_cast; rfl)), by have := HK.out; omega, ⟨by rw [List.length_append, HDL.out]; rfl⟩, ⟨by rw [HC.out, rc_drop _ i hi, if_pos ⟨hc1, hc2⟩, List.append_assoc]; rfl⟩, ⟨by omega, HPE.out⟩, by rw [set_mid dn x.f4 i hi HDL.out] at HP1; exact HP1.out, kU, kA, kR, b1⟩
          · have c2' : decide (kv < p + (nodes x.f4[i] : Int)) = false := decide_eq_false hc2
            have HN : Aside0 (¬ (p ≤ kv ∧ kv < p + (nodes x.f4[i] : Int))) := ⟨fun h => hc2 h.2⟩
            clear hc1 hc2
            clear p0 p1 p2 p3 p4 u0 u1 u2 u3 u4 t0 t1 t2 t3 t4 x0 x1 x2 x3 x4 la lu'
            go_wp2
            go_roundg k1
            case measure => omega
            case rel => exact ⟨i + 1, dn ++ [x.f4[i]], p + nodes x.f4[i], (by first | rfl | rw [hw1]), (by first | rfl | (simp; done) | (push_cast; rfl)), by have := HK.out; omega, ⟨by rw [List.length_append, HDL.out]; rfl⟩, ⟨by rw [HC.out, rc_drop _ i hi, if_neg (fun h => HN.out h), List.append_assoc]; rfl⟩, ⟨by omega, HPE.out⟩, by rw [List.drop_eq_getElem_cons hi] at HO; rw [List.append_assoc]; exact HO, kU, kA, kR, br⟩
        · have c1 : decide (p ≤ kv) = false := decide_eq_false hc1
          have HN : Aside0 (¬ (p ≤ kv ∧ kv < p + (nodes x.f4[i] : Int))) := ⟨fun h => hc1 h.1⟩
          clear hc1
          clear p0 p1 p2 p3 p4 u0 u1 u2 u3 u4 t0 t1 t2 t3 t4 x0 x1 x2 x3 x4 la lu'
          go_wp2
          go_roundg k1
          case measure => omega
          case rel => exact ⟨i + 1, dn ++ [x.f4[i]], p + nodes x.f4[i], (by first | rfl | rw [hw1]), (by first | rfl | (simp; done) | (push_cast; rfl)), by have := HK.out; omega, ⟨by rw [List.length_append, HDL.out]; rfl⟩, ⟨by rw [HC.out, rc_drop _ i hi, if_neg (fun h => HN.out h), List.append_assoc]; rfl⟩, ⟨by omega, HPE.out⟩, by rw [List.drop_eq_getElem_cons hi] at HO; rw [List.append_assoc]; exact HO, kU, kA, kR, br⟩
      · have cn : decide ((i : Int) < (x.f4.length : Int)) = false := decide_eq_false (by omega)
        rw [List.drop_eq_nil_of_le (show x.f4.length ≤ i by omega), List.append_nil] at HO
        have hdl : dn.length = x.f4.length := by have := HDL.out; omega
        have HDL2 := Aside0.mk hdl
        clear hdl
        go_wp2
        (try simp only [Exit.inBlock, Exit.then]); refine bodyPost_ret (results_ct rfl _ _ _ 25 _ (0, 0) _ rfl (stored kR _ _ _ _ _) Try.underlying25 rfl (by kernel_rfl)) rfl ?_
        rw [← HDL2.out] at HO ⊢
        refine COut.yes (u := ⟨x.f0, x.f1, x.f2, x.f3, dn⟩) (below_stored br (by omega) _ _ _ _ _) ?_ ((FT.stored (w := wr) (ok := (fun k => (ok0 k ∧ k < w.heap.size) ∨ gU < k)) (x := ⟨x.f0, x.f1, x.f2, x.f3, dn⟩) (A3 := A3) (c3 := c3) (A4 := A2) (c4 := c2) (g := w.heap.size + 1) ⟨ha.1, Kd.F_mono (Kd.F_below ha.2.1 br) (fun k hk => .inl hk), (Kd.N_reads' HO).2.1, Kd.N_F HO⟩ (fun k hk => by rcases hk with hk | hk; (have := hk.2; omega); omega) _ _ _ _ _).mono (fun k hk => by rcases hk with hk | hk; exact .inl hk.1; exact .inr (by omega)))
        rw [HQ.out, HC.out, List.drop_eq_nil_of_le (show x.f4.length ≤ i by omega)]
        simp [rc]
end Go.Proofs.Ytnfnhjhnfdkinaa.PPrecTells

/-
  env: SameVal and SameVals hold values the same as themselves.
-/
import Derived.Test.YtalmhbiedkjpmaaE6
namespace Go.Proofs.Ytalmhbiedkjpmaa.PEnvPlays
open Go.RowKit Go.Proofs.YtalmhbiedkjpmaaW.Mine Go.Proofs.YtalmhbiedkjpmaaW.PrintWords Go.Proofs.YtalmhbiedkjpmaaW.PrintLast Go.Proofs.YtalmhbiedkjpmaaW.PrintMore
attribute [local go_sem] max2_int min2_int max_two min_two max_three min_three max_four min_four
set_option linter.unusedVariables false
set_option linter.unusedSimpArgs false
/-- An element of a list of values. -/
theorem velt {w : World} {A : Option Addr} {l : List Vl} (h : kVl.C w A l.length l) (i : Nat) (hi : i < l.length) : ∃ ad A6 c6 A7 c7 A8 c8, A = some ad ∧ RV w l[i] A6 c6 A7 c7 A8 c8
    ∧ w.cell? (ad.add (i * 10)) = some (.int .i64 l[i].f0)
    ∧ w.cell? ⟨(ad.add (i * 10)).block, (ad.add (i * 10)).off + 1, none⟩ = some (.int .i64 l[i].f1)
    ∧ w.cell? ⟨(ad.add (i * 10)).block, (ad.add (i * 10)).off + 2, none⟩ = some (.int .i64 l[i].f2)
    ∧ w.cell? ⟨(ad.add (i * 10)).block, (ad.add (i * 10)).off + 3, none⟩ = some (.bool l[i].f3)
    ∧ w.cell? ⟨(ad.add (i * 10)).block, (ad.add (i * 10)).off + 4, none⟩ = some (.string l[i].f4)
    ∧ w.cell? ⟨(ad.add (i * 10)).block, (ad.add (i * 10)).off + 5, none⟩ = some (.string l[i].f5.f0)
    ∧ w.cell? ⟨(ad.add (i * 10)).block, (ad.add (i * 10)).off + 6, none⟩ = some (.int .i64 l[i].f5.f1)
    ∧ w.cell? ⟨(ad.add (i * 10)).block, (ad.add (i * 10)).off + 7, none⟩ = some (.slice A6 l[i].f6.length c6)
    ∧ w.cell? ⟨(ad.add (i * 10)).block, (ad.add (i * 10)).off + 8, none⟩ = some (.slice A7 l[i].f7.length c7)
    ∧ w.cell? ⟨(ad.add (i * 10)).block, (ad.add (i * 10)).off + 9, none⟩ = some (.slice A8 l[i].f8.length c8) := by
  obtain ⟨ad, A6, c6, A7, c7, A8, c8, e, h0, h1, h2, h3, h4, h5, h6, h7, h8, h9, g6, r6, g7, r7, g8, r8⟩ := at_T52 h (i : Int) (by omega) (by omega)
  have q : rd_T52 l (i : Int) = l[i] := getD_at _ l i hi
  rw [q] at h0 h1 h2 h3 h4 h5 h6 h7 h8 h9 g6 r6 g7 r7 g8 r8
  rw [Int.toNat_natCast] at h0 h1 h2 h3 h4 h5 h6 h7 h8 h9
  exact ⟨ad, A6, c6, A7, c7, A8, c8, e, ⟨g6, r6, g7, r7, g8, r8⟩, h0, h1, h2, h3, h4, h5, h6, h7, h8, h9⟩
set_option maxHeartbeats 4000000 in
set_option maxRecDepth 100000 in
theorem vals_c (l : List Vl) (hs : ∀ y, y ∈ l → SaysV y) (hl : l.length * 144 ≤ 140737488351232) {A A' : Option Addr} {c c' : Nat} {w : World} (h : kVl.C w A l.length l) (h' : kVl.C w A' l.length l) :
    Calls Try.prog 45 #[.slice A l.length c, .slice A' l.length c'] w (Yes w) := by
  have h1 := Aside0.mk h
  have h2 := Aside0.mk h'
  have HL := Aside0.mk hl
  clear h h' hl
  go_enter Try.func45, Try.ntmps45
  go_wp2_with fail
  go_loopg [5] l.length (fun kq v5 w' => ∃ (i : Nat), v5 = .int .i64 i ∧ kq + i = l.length ∧ Below w.heap.size w w')
  case atStart => exact ⟨0, rfl, rfl, Below.refl _ _⟩
  case round =>
    obtain ⟨i, rfl, hk, br⟩ := hrel
    by_cases hi : i < l.length
    · obtain ⟨k1, rfl⟩ : ∃ k1, gk = k1 + 1 := ⟨gk - 1, by omega⟩
      have ci : decide ((i : Int) < (l.length : Int)) = true := decide_eq_true (by omega)
      have i0 : (0 : Int) ≤ (i : Int) := by omega
      have i1 : (i : Int) < (l.length : Int) := by omega
      obtain ⟨ad, A6, c6, A7, c7, A8, c8, eA, fx, x0, x1, x2, x3, x4, x5, x6, x7, x8, x9⟩ := velt h1.out i hi
      obtain ⟨bd, B6, d6, B7, d7, B8, d8, eB, fy, y0, y1, y2, y3, y4, y5, y6, y7, y8, y9⟩ := velt h2.out i hi
      subst eA eB
      replace fx := fx.below br
      replace fy := fy.below br
      replace x0 := cell_up br x0
      replace x1 := cell_up br x1
      replace x2 := cell_up br x2
      replace x3 := cell_up br x3
      replace x4 := cell_up br x4
      replace x5 := cell_up br x5
      replace x6 := cell_up br x6
      replace x7 := cell_up br x7
      replace x8 := cell_up br x8
      replace x9 := cell_up br x9
      replace y0 := cell_up br y0
      replace y1 := cell_up br y1
      replace y2 := cell_up br y2
      replace y3 := cell_up br y3
      replace y4 := cell_up br y4
      replace y5 := cell_up br y5
      replace y6 := cell_up br y6
      replace y7 := cell_up br y7
      replace y8 := cell_up br y8
      replace y9 := cell_up br y9
      have HK := Aside0.mk hk
      clear hk
      go_wp2_with fail
      refine with_cont (G := ∀ W, Below wr.heap.size wr W → (?P1 : World → Prop) W) ?cont1 fun hmain => ?reg1
      case reg1 =>
        refine wp_region_held_drew (S := (fun w' => Below wr.heap.size wr w' ∧ w'.cell? (ad.add (i * 10)) = some (.int .i64 l[i].f0) ∧ w'.cell? ⟨(ad.add (i * 10)).block, (ad.add (i * 10)).off + 1, none⟩ = some (.int .i64 l[i].f1) ∧ w'.cell? ⟨(ad.add (i * 10)).block, (ad.add (i * 10)).off + 2, none⟩ = some (.int .i64 l[i].f2) ∧ w'.cell? ⟨(ad.add (i * 10)).block, (ad.add (i * 10)).off + 3, none⟩ = some (.bool l[i].f3) ∧ w'.cell? ⟨(ad.add (i * 10)).block, (ad.add (i * 10)).off + 4, none⟩ = some (.string l[i].f4) ∧ w'.cell? ⟨(ad.add (i * 10)).block, (ad.add (i * 10)).off + 5, none⟩ = some (.string l[i].f5.f0) ∧ w'.cell? ⟨(ad.add (i * 10)).block, (ad.add (i * 10)).off + 6, none⟩ = some (.int .i64 l[i].f5.f1) ∧ w'.cell? ⟨(ad.add (i * 10)).block, (ad.add (i * 10)).off + 7, none⟩ = some (.slice A6 l[i].f6.length c6) ∧ w'.cell? ⟨(ad.add (i * 10)).block, (ad.add (i * 10)).off + 8, none⟩ = some (.slice A7 l[i].f7.length c7) ∧ w'.cell? ⟨(ad.add (i * 10)).block, (ad.add (i * 10)).off + 9, none⟩ = some (.slice A8 l[i].f8.length c8) ∧ w'.cell? (bd.add (i * 10)) = some (.int .i64 l[i].f0) ∧ w'.cell? ⟨(bd.add (i * 10)).block, (bd.add (i * 10)).off + 1, none⟩ = some (.int .i64 l[i].f1) ∧ w'.cell? ⟨(bd.add (i * 10)).block, (bd.add (i * 10)).off + 2, none⟩ = some (.int .i64 l[i].f2) ∧ w'.cell? ⟨(bd.add (i * 10)).block, (bd.add (i * 10)).off + 3, none⟩ = some (.bool l[i].f3) ∧ w'.cell? ⟨(bd.add (i * 10)).block, (bd.add (i * 10)).off + 4, none⟩ = some (.string l[i].f4) ∧ w'.cell? ⟨(bd.add (i * 10)).block, (bd.add (i * 10)).off + 5, none⟩ = some (.string l[i].f5.f0) ∧ w'.cell? ⟨(bd.add (i * 10)).block, (bd.add (i * 10)).off + 6, none⟩ = some (.int .i64 l[i].f5.f1) ∧ w'.cell? ⟨(bd.add (i * 10)).block, (bd.add (i * 10)).off + 7, none⟩ = some (.slice B6 l[i].f6.length d6) ∧ w'.cell? ⟨(bd.add (i * 10)).block, (bd.add (i * 10)).off + 8, none⟩ = some (.slice B7 l[i].f7.length d7) ∧ w'.cell? ⟨(bd.add (i * 10)).block, (bd.add (i * 10)).off + 9, none⟩ = some (.slice B8 l[i].f8.length d8))) (by kernel_rfl) ?_ (fun hHeld => ?_)
        · (try dsimp only)
          ((refine and_of (fun hB_ => ⟨cell_up hB_ x0, cell_up hB_ x1, cell_up hB_ x2, cell_up hB_ x3, cell_up hB_ x4, cell_up hB_ x5, cell_up hB_ x6, cell_up hB_ x7, cell_up hB_ x8, cell_up hB_ x9, cell_up hB_ y0, cell_up hB_ y1, cell_up hB_ y2, cell_up hB_ y3, cell_up hB_ y4, cell_up hB_ y5, cell_up hB_ y6, cell_up hB_ y7, cell_up hB_ y8, cell_up hB_ y9⟩) ?_; first | (with_reducible exact (Below.refl _ _).drew) | (with_reducible exact below_call' (And.left (by assumption)) (by assumption)) | (with_reducible exact And.left (by assumption))))
        (first | (refine take_held (i := 0) (d := (some 23)) (v := ?_) rfl rfl (by kernel_rfl) (by kernel_rfl) (by kernel_rfl) (fun _ _ _ h => h) (Or.inl ⟨by rfl, ?_⟩) (by assumption) ?_; rotate_left 1; focus ((intro w hSw; (try dsimp only at hSw); first | (go_simp; done) | (go_simp; with_reducible rfl)); done); (try simp only [Act.put, List.setIfInBounds_toArray, List.set_cons_zero, List.set_cons_succ])))
        (try simp only [Act.put, List.setIfInBounds_toArray, List.set_cons_zero, List.set_cons_succ])
        (first | (refine take_held (i := 1) (d := (some 24)) (v := ?_) rfl rfl (by kernel_rfl) (by kernel_rfl) (by kernel_rfl) (fun _ _ _ h => h) (Or.inl ⟨by rfl, ?_⟩) (by assumption) ?_; rotate_left 1; focus ((intro w hSw; (try dsimp only at hSw); first | (go_simp; done) | (go_simp; with_reducible rfl)); done); (try simp only [Act.put, List.setIfInBounds_toArray, List.set_cons_zero, List.set_cons_succ])))
        (try simp only [Act.put, List.setIfInBounds_toArray, List.set_cons_zero, List.set_cons_succ])
        (first | (refine take_held (i := 2) (d := (some 25)) (v := ?_) rfl rfl (by kernel_rfl) (by kernel_rfl) (by kernel_rfl) (fun _ _ _ h => h) (Or.inl ⟨by rfl, ?_⟩) (by assumption) ?_; rotate_left 1; focus ((intro w hSw; (try dsimp only at hSw); first | (go_simp; done) | (go_simp; with_reducible rfl)); done); (try simp only [Act.put, List.setIfInBounds_toArray, List.set_cons_zero, List.set_cons_succ])))
        (try simp only [Act.put, List.setIfInBounds_toArray, List.set_cons_zero, List.set_cons_succ])
        (first | (refine take_held (i := 3) (d := (some 26)) (v := ?_) rfl rfl (by kernel_rfl) (by kernel_rfl) (by kernel_rfl) (fun _ _ _ h => h) (Or.inl ⟨by rfl, ?_⟩) (by assumption) ?_; rotate_left 1; focus ((intro w hSw; (try dsimp only at hSw); first | (go_simp; done) | (go_simp; with_reducible rfl)); done); (try simp only [Act.put, List.setIfInBounds_toArray, List.set_cons_zero, List.set_cons_succ])))
        (try simp only [Act.put, List.setIfInBounds_toArray, List.set_cons_zero, List.set_cons_succ])
        (first | (refine take_held (i := 4) (d := (some 27)) (v := ?_) rfl rfl (by kernel_rfl) (by kernel_rfl) (by kernel_rfl) (fun _ _ _ h => h) (Or.inl ⟨by rfl, ?_⟩) (by assumption) ?_; rotate_left 1; focus ((intro w hSw; (try dsimp only at hSw); first | (go_simp; done) | (go_simp; with_reducible rfl)); done); (try simp only [Act.put, List.setIfInBounds_toArray, List.set_cons_zero, List.set_cons_succ])))
        (try simp only [Act.put, List.setIfInBounds_toArray, List.set_cons_zero, List.set_cons_succ])
        (first | (refine take_held (i := 5) (d := (some 28)) (v := ?_) rfl rfl (by kernel_rfl) (by kernel_rfl) (by kernel_rfl) (fun _ _ _ h => h) (Or.inl ⟨by rfl, ?_⟩) (by assumption) ?_; rotate_left 1; focus ((intro w hSw; (try dsimp only at hSw); first | (go_simp; done) | (go_simp; with_reducible rfl)); done); (try simp only [Act.put, List.setIfInBounds_toArray, List.set_cons_zero, List.set_cons_succ])))
        (try simp only [Act.put, List.setIfInBounds_toArray, List.set_cons_zero, List.set_cons_succ])
        (first | (refine take_held (i := 6) (d := (some 29)) (v := ?_) rfl rfl (by kernel_rfl) (by kernel_rfl) (by kernel_rfl) (fun _ _ _ h => h) (Or.inl ⟨by rfl, ?_⟩) (by assumption) ?_; rotate_left 1; focus ((intro w hSw; (try dsimp only at hSw); first | (go_simp; done) | (go_simp; with_reducible rfl)); done); (try simp only [Act.put, List.setIfInBounds_toArray, List.set_cons_zero, List.set_cons_succ])))
        (try simp only [Act.put, List.setIfInBounds_toArray, List.set_cons_zero, List.set_cons_succ])
        (first | (refine take_held (i := 7) (d := (some 30)) (v := ?_) rfl rfl (by kernel_rfl) (by kernel_rfl) (by kernel_rfl) (fun _ _ _ h => h) (Or.inl ⟨by rfl, ?_⟩) (by assumption) ?_; rotate_left 1; focus ((intro w hSw; (try dsimp only at hSw); first | (go_simp; done) | (go_simp; with_reducible rfl)); done); (try simp only [Act.put, List.setIfInBounds_toArray, List.set_cons_zero, List.set_cons_succ])))
        (try simp only [Act.put, List.setIfInBounds_toArray, List.set_cons_zero, List.set_cons_succ])
        (first
          | (refine wpAnyH_ready (rs := [8]) (by kernel_rfl) (by simp) ?_; refine AllReadyH.cons (o := _) rfl (fun K hK => ?_) AllReadyH.nil; go_simp; (go_at_call 27; refine (hs _ (List.getElem_mem hi) _ _ _ _ _ _ _ _ _ _ _ _ _ (fx.below (And.left (by assumption))) (fy.below (And.left (by assumption)))).mono ?_; rintro e_ wA ⟨rfl, hbA⟩); (try go_wp2_with fail); refine hK.out _ _ (by (try dsimp only); ((refine and_of (fun hB_ => ⟨cell_up hB_ x0, cell_up hB_ x1, cell_up hB_ x2, cell_up hB_ x3, cell_up hB_ x4, cell_up hB_ x5, cell_up hB_ x6, cell_up hB_ x7, cell_up hB_ x8, cell_up hB_ x9, cell_up hB_ y0, cell_up hB_ y1, cell_up hB_ y2, cell_up hB_ y3, cell_up hB_ y4, cell_up hB_ y5, cell_up hB_ y6, cell_up hB_ y7, cell_up hB_ y8, cell_up hB_ y9⟩) ?_; first | (with_reducible exact (Below.refl _ _).drew) | (with_reducible exact below_call' (And.left (by assumption)) (by assumption)) | (with_reducible exact And.left (by assumption))))) ?_; clear hHeld hK K; intro hHeld; (try simp only [Act.put, List.setIfInBounds_toArray, List.set_cons_zero, List.set_cons_succ])))
        (first | (refine take_held (i := 9) (d := (some 32)) (v := ?_) rfl rfl (by kernel_rfl) (by kernel_rfl) (by kernel_rfl) (fun _ _ _ h => h) (Or.inl ⟨by rfl, ?_⟩) (by assumption) ?_; rotate_left 1; focus ((intro w hSw; (try dsimp only at hSw); first | (go_simp; done) | (go_simp; with_reducible rfl)); done); (try simp only [Act.put, List.setIfInBounds_toArray, List.set_cons_zero, List.set_cons_succ])))
        (try simp only [Act.put, List.setIfInBounds_toArray, List.set_cons_zero, List.set_cons_succ])
        (try simp only [Act.put, List.setIfInBounds_toArray, List.set_cons_zero, List.set_cons_succ])
        refine wpAnyH_done (by kernel_rfl) ?_ _
        have hbR := below_call' (And.left hHeld) (Below.refl _ _)
        exact hmain.out _ hbR
      intro W hb
      have br2 := chain br hb
      clear x0 x1 x2 x3 x4 x5 x6 x7 x8 x9 y0 y1 y2 y3 y4 y5 y6 y7 y8 y9 fx fy br hb
      go_wp2
      go_roundg k1
      case measure => omega
      case rel => exact ⟨i + 1, (by rw [wrap_up (by have := HL.out; omega)]), by have := HK.out; omega, br2⟩
    · have cn : decide ((i : Int) < (l.length : Int)) = false := decide_eq_false (by omega)
      go_wp2
      go_ret
      exact ⟨rfl, br⟩
set_option maxHeartbeats 4000000 in
set_option maxRecDepth 100000 in
theorem val_c (x : Vl) (ho : Okv x) (hs : ∀ y, y ∈ x.f8 → SaysV y) : SaysV x := by
  intro A6 c6 A7 c7 A8 c8 B6 d6 B7 d7 B8 d8 w hA hB
  obtain ⟨o6, ot, o7, o8, os⟩ := ho.parts
  obtain ⟨kP, kQ, b0⟩ := two_boxes w #[.int .i64 x.f0, .int .i64 x.f1, .int .i64 x.f2, .bool x.f3, .string x.f4, .string x.f5.f0, .int .i64 x.f5.f1, .slice A6 x.f6.length c6, .slice A7 x.f7.length c7, .slice A8 x.f8.length c8] #[.int .i64 x.f0, .int .i64 x.f1, .int .i64 x.f2, .bool x.f3, .string x.f4, .string x.f5.f0, .int .i64 x.f5.f1, .slice B6 x.f6.length d6, .slice B7 x.f7.length d7, .slice B8 x.f8.length d8] 52
  obtain ⟨⟨p0, p1, p2, p3, p4, p5, p6, p7, p8, p9⟩, _, lp⟩ := ten kP
  obtain ⟨⟨q0, q1, q2, q3, q4, q5, q6, q7, q8, q9⟩, _, lq⟩ := ten kQ
  replace hA := hA.below b0
  replace hB := hB.below b0
  have hlab : ∀ W, (binOp .neq 49 (.agg #[.string x.f5.f0, .int .i64 x.f5.f1]) (.agg #[.string x.f5.f0, .int .i64 x.f5.f1])).run Try.prog W = .ok (.bool false) W := label_eq _ _
  have O6 := Aside0.mk o6
  have O7 := Aside0.mk o7
  have O8 := Aside0.mk o8
  have B0 := Aside0.mk b0
  clear kP kQ o6 o7 o8 ho os b0
  go_enter Try.func27, Try.ntmps27
  go_wp2_with fail
  generalize hX : (w.alloc (.cells #[.int .i64 x.f0, .int .i64 x.f1, .int .i64 x.f2, .bool x.f3, .string x.f4, .string x.f5.f0, .int .i64 x.f5.f1, .slice A6 x.f6.length c6, .slice A7 x.f7.length c7, .slice A8 x.f8.length c8] 52)).alloc (.cells #[.int .i64 x.f0, .int .i64 x.f1, .int .i64 x.f2, .bool x.f3, .string x.f4, .string x.f5.f0, .int .i64 x.f5.f1, .slice B6 x.f6.length d6, .slice B7 x.f7.length d7, .slice B8 x.f8.length d8] 52) = X at p0 p1 p2 p3 p4 p5 p6 p7 p8 p9 q0 q1 q2 q3 q4 q5 q6 q7 q8 q9 lp lq hA hB B0 ⊢
  clear hX
  go_wp2_with fail
  refine (all_c x.f6 O6.out ot hA.2.1 hA.1 hB.2.1 hB.1).mono ?_
  rintro e w1 ⟨rfl, hb⟩
  replace B0 := Aside0.mk (chain B0.out hb)
  replace hA := hA.below hb
  replace hB := hB.below hb
  replace p0 := cell_up hb p0
  replace p1 := cell_up hb p1
  replace p2 := cell_up hb p2
  replace p3 := cell_up hb p3
  replace p4 := cell_up hb p4
  replace p5 := cell_up hb p5
  replace p6 := cell_up hb p6
  replace p7 := cell_up hb p7
  replace p8 := cell_up hb p8
  replace p9 := cell_up hb p9
  replace q0 := cell_up hb q0
  replace q1 := cell_up hb q1
  replace q2 := cell_up hb q2
  replace q3 := cell_up hb q3
  replace q4 := cell_up hb q4
  replace q5 := cell_up hb q5
  replace q6 := cell_up hb q6
  replace q7 := cell_up hb q7
  replace q8 := cell_up hb q8
  replace q9 := cell_up hb q9
  clear hb
  go_wp2_with fail
  refine (names_c x.f7 O7.out hA.2.2.2.1 hA.2.2.1 hB.2.2.2.1 hB.2.2.1).mono ?_
  rintro e w2 ⟨rfl, hb⟩
  replace B0 := Aside0.mk (chain B0.out hb)
  replace hA := hA.below hb
  replace hB := hB.below hb
  replace p0 := cell_up hb p0
  replace p1 := cell_up hb p1
  replace p2 := cell_up hb p2
  replace p3 := cell_up hb p3
  replace p4 := cell_up hb p4
  replace p5 := cell_up hb p5
  replace p6 := cell_up hb p6
  replace p7 := cell_up hb p7
  replace p8 := cell_up hb p8
  replace p9 := cell_up hb p9
  replace q0 := cell_up hb q0
  replace q1 := cell_up hb q1
  replace q2 := cell_up hb q2
  replace q3 := cell_up hb q3
  replace q4 := cell_up hb q4
  replace q5 := cell_up hb q5
  replace q6 := cell_up hb q6
  replace q7 := cell_up hb q7
  replace q8 := cell_up hb q8
  replace q9 := cell_up hb q9
  clear hb
  go_wp2_with fail
  refine (vals_c x.f8 hs O8.out hA.2.2.2.2.2 hB.2.2.2.2.2).mono ?_
  rintro e w3 ⟨rfl, hb⟩
  replace B0 := Aside0.mk (chain B0.out hb)
  clear hb p0 p1 p2 p3 p4 p5 p6 p7 p8 p9 q0 q1 q2 q3 q4 q5 q6 q7 q8 q9
  go_wp2
  go_ret
  exact ⟨rfl, B0.out⟩
theorem says : ∀ (n : Nat) (x : Vl), SizeOf.sizeOf x < n → Okv x → SaysV x
  | 0, x, h, _ => absurd h (by omega)
  | n + 1, x, h, ho => val_c x ho fun y hy => says n y (by
      have := List.sizeOf_lt_of_mem hy
      cases x
      simp at h this ⊢
      omega) (ho.parts.2.2.2.2 y hy)
end Go.Proofs.Ytalmhbiedkjpmaa.PEnvPlays

/-
  ConvBack: texts of this claim, put together by a program of this session. No conditions beyond what each lemma says.
-/
import Derived.Test.YtnfnhjhnfdkinaazConvBack28
namespace Go.Proofs.Ytnfnhjhnfdkinaa.PConvBack
open Go.RowKit Go.Proofs.YtnfnhjhnfdkinaaW.Mine Go.Proofs.YtnfnhjhnfdkinaaW.PrintWords Go.Proofs.YtnfnhjhnfdkinaaW.PrintLast Go.Proofs.YtnfnhjhnfdkinaaW.PrintMore
attribute [local go_sem] max2_int min2_int max_two min_two max_three min_three max_four min_four
set_option linter.unusedVariables false
set_option linter.unusedSimpArgs false
set_option maxHeartbeats 40000000 in
set_option maxRecDepth 100000 in
theorem awake_c (w : World) : Calls Try.prog 41 #[] w (Yes w) := by
  obtain ⟨x, y, z, hx1, hy0, hy1, hx, hxg, ex, c1, c1g, c2, c2g, c3, c3g⟩ := awake_vals
  have HX1 := Aside0.mk hx1
  have HY0 := Aside0.mk hy0
  have HY1 := Aside0.mk hy1
  have HW := Aside0.mk has_w
  have HX := Aside0.mk @hx
  have HXG := Aside0.mk @hxg
  have C1 := Aside0.mk @c1
  have C1g := Aside0.mk @c1g
  have C2 := Aside0.mk @c2
  have C2g := Aside0.mk @c2g
  have C3 := Aside0.mk @c3
  have C3g := Aside0.mk @c3g
  clear hx1 hy0 hy1 hx hxg c1 c1g c2 c2g c3 c3g
  have b0 := Below.refl w.heap.size w
  go_enter Try.func41, Try.ntmps41
  have ev : (#[.int .i64 1, .int .i64 3, .int .i64 0, .bool false, .string ⟨#[]⟩, .string ⟨#[]⟩, .int .i64 0, .slice none 0 0, .slice none 0 0, .slice none 0 0] : Array Value) = vcells x none 0 none 0 none 0 := by rw [ex]; rfl
  have EV := Aside0.mk ev
  clear ev ex
  have kX := blk_new w (.cells #[.int .i64 1, .int .i64 3, .int .i64 0, .bool false, .string ⟨#[]⟩, .string ⟨#[]⟩, .int .i64 0, .slice none 0 0, .slice none 0 0, .slice none 0 0] 55)
  have hb := below_alloc1 w (.cells #[.int .i64 1, .int .i64 3, .int .i64 0, .bool false, .string ⟨#[]⟩, .string ⟨#[]⟩, .int .i64 0, .slice none 0 0, .slice none 0 0, .slice none 0 0] 55)
  have b_1 := chain b0 hb
  clear b0
  clear hb
  obtain ⟨⟨Xc0, Xc1, Xc2, Xc3, Xc4, Xc5, Xc6, Xc7, Xc8, Xc9⟩, ⟨Xf0, Xf1, Xf2, Xf3, Xf4, Xf5, Xf6, Xf7, Xf8, Xf9⟩, Xl⟩ := ten kX
  go_wp2_with fail
  clear Xc0 Xc1 Xc2 Xc3 Xc4 Xc5 Xc6 Xc7 Xc8 Xc9 Xf0 Xf1 Xf2 Xf3 Xf4 Xf5 Xf6 Xf7 Xf8 Xf9 Xl
  generalize hW0 : w.alloc (.cells #[.int .i64 1, .int .i64 3, .int .i64 0, .bool false, .string ⟨#[]⟩, .string ⟨#[]⟩, .int .i64 0, .slice none 0 0, .slice none 0 0, .slice none 0 0] 55) = W0 at kX b_1 ⊢
  rw [EV.out] at kX
  clear hW0 EV
  obtain ⟨⟨Xc0, Xc1, Xc2, Xc3, Xc4, Xc5, Xc6, Xc7, Xc8, Xc9⟩, ⟨Xf0, Xf1, Xf2, Xf3, Xf4, Xf5, Xf6, Xf7, Xf8, Xf9⟩, Xl⟩ := ten kX
  refine with_cont (G := ?G1) ?cont1 fun hmain => ?reg1
  case reg1 =>
    refine wp_region_held_drew (S := (fun w' => Below W0.heap.size W0 w' ∧ w'.cell? ⟨w.heap.size, 0, none⟩ = some (.int .i64 x.f0) ∧ w'.cell? ⟨w.heap.size, 1, none⟩ = some (.int .i64 x.f1) ∧ w'.cell? ⟨w.heap.size, 2, none⟩ = some (.int .i64 x.f2) ∧ w'.cell? ⟨w.heap.size, 3, none⟩ = some (.bool x.f3) ∧ w'.cell? ⟨w.heap.size, 4, none⟩ = some (.string x.f4) ∧ w'.cell? ⟨w.heap.size, 5, none⟩ = some (.string x.f5.f0) ∧ w'.cell? ⟨w.heap.size, 6, none⟩ = some (.int .i64 x.f5.f1) ∧ w'.cell? ⟨w.heap.size, 7, none⟩ = some (.slice none x.f6.length 0) ∧ w'.cell? ⟨w.heap.size, 8, none⟩ = some (.slice none x.f7.length 0) ∧ w'.cell? ⟨w.heap.size, 9, none⟩ = some (.slice none x.f8.length 0))) (by kernel_rfl) ?_ (fun hHeld => ?_)
    · exact (and_of (fun hB_ => ⟨cell_up hB_ Xc0, cell_up hB_ Xc1, cell_up hB_ Xc2, cell_up hB_ Xc3, cell_up hB_ Xc4, cell_up hB_ Xc5, cell_up hB_ Xc6, cell_up hB_ Xc7, cell_up hB_ Xc8, cell_up hB_ Xc9⟩) ((Below.refl _ _).drew))
    have bd_ : Below W0.heap.size W0 W0.drew := (Below.refl _ _).drew
    generalize W0.drew = V1_0 at hHeld bd_ ⊢
    clear bd_
    (first | (refine take_held (i := 0) (d := (some 10)) (v := ?_) rfl rfl (by kernel_rfl) (by kernel_rfl) (by kernel_rfl) (fun _ _ _ h => h) (Or.inl ⟨by rfl, ?_⟩) hHeld ?_; rotate_left 1; focus ((intro w hSw; (try dsimp only at hSw); first | (go_simp; done) | (go_simp; with_reducible rfl)); done); (try simp only [Act.put, List.setIfInBounds_toArray, List.set_cons_zero, List.set_cons_succ])))
    refine wpAnyH_ready (rs := [1, 6]) (by kernel_rfl) (by simp) ?_
    refine AllReadyH.cons (o := _) rfl (fun K hK => ?_) (AllReadyH.cons (o := _) rfl (fun K hK => ?_) AllReadyH.nil)
    focus
      go_simp
      go_at_call 77
      refine (mkseal_c 1).mono ?_
      rintro e_ V1_1 ⟨rfl, hb⟩
      (try go_wp2_with fail)
      refine hK.out _ _ (and_of (fun hB_ => ⟨cell_up hB_ Xc0, cell_up hB_ Xc1, cell_up hB_ Xc2, cell_up hB_ Xc3, cell_up hB_ Xc4, cell_up hB_ Xc5, cell_up hB_ Xc6, cell_up hB_ Xc7, cell_up hB_ Xc8, cell_up hB_ Xc9⟩) (chain (And.left hHeld) hb)) ?_
      clear hHeld hK K
      intro hHeld
      (try simp only [Act.put, List.setIfInBounds_toArray, List.set_cons_zero, List.set_cons_succ])
      clear hb
      refine wpAnyH_ready (rs := [2, 6]) (by kernel_rfl) (by simp) ?_
      refine AllReadyH.cons (o := _) rfl (fun K hK => ?_) (AllReadyH.cons (o := _) rfl (fun K hK => ?_) AllReadyH.nil)
      focus
        go_simp
        go_at_call 44
        refine (C1.out HX.out).mono ?_
        rintro e_ V1_2 ⟨Y6, y6, Y7, y7, Y8, y8, rfl, hy, hb⟩
        (try go_wp2_with fail)
        refine hK.out _ _ (and_of (fun hB_ => ⟨cell_up hB_ Xc0, cell_up hB_ Xc1, cell_up hB_ Xc2, cell_up hB_ Xc3, cell_up hB_ Xc4, cell_up hB_ Xc5, cell_up hB_ Xc6, cell_up hB_ Xc7, cell_up hB_ Xc8, cell_up hB_ Xc9⟩) (chain (And.left hHeld) hb)) ?_
        clear hHeld hK K
        intro hHeld
        (try simp only [Act.put, List.setIfInBounds_toArray, List.set_cons_zero, List.set_cons_succ])
        clear hb
        (first | (refine take_held (i := 3) (d := (some 9)) (v := ?_) rfl rfl (by kernel_rfl) (by kernel_rfl) (by kernel_rfl) (fun _ _ _ h => h) (Or.inl ⟨by rfl, ?_⟩) hHeld ?_; rotate_left 1; focus ((intro w hSw; (try dsimp only at hSw); first | (go_simp; done) | (go_simp; with_reducible rfl)); done); (try simp only [Act.put, List.setIfInBounds_toArray, List.set_cons_zero, List.set_cons_succ])))
        (first | (refine take_held (i := 4) (d := (some 13)) (v := ?_) rfl rfl (by kernel_rfl) (by kernel_rfl) (by kernel_rfl) (fun _ _ _ h => h) (Or.inl ⟨by rfl, ?_⟩) hHeld ?_; rotate_left 1; focus ((intro w hSw; (try dsimp only at hSw); first | (go_simp; done) | (go_simp; with_reducible rfl)); done); (try simp only [Act.put, List.setIfInBounds_toArray, List.set_cons_zero, List.set_cons_succ])))
        (first | (refine take_held (i := 5) (d := (some 14)) (v := ?_) rfl rfl (by kernel_rfl) (by kernel_rfl) (by kernel_rfl) (fun _ _ _ h => h) (Or.inl ⟨by rfl, ?_⟩) hHeld ?_; rotate_left 1; focus ((intro w hSw; (try dsimp only at hSw); first | (go_simp; done) | (go_simp; with_reducible rfl)); done); (try simp only [Act.put, List.setIfInBounds_toArray, List.set_cons_zero, List.set_cons_succ])))
        refine wpAnyH_ready (rs := [6]) (by kernel_rfl) (by simp) ?_
        refine AllReadyH.cons (o := _) rfl (fun K hK => ?_) AllReadyH.nil
        go_simp
        obtain ⟨gR, hgR⟩ : ∃ g_, g_ = V1_2.heap.size := ⟨_, rfl⟩
        have kR := blk_new V1_2 (.cells zcells 55)
        have hb := below_alloc1 V1_2 (.cells zcells 55)
        have lgR : W0.heap.size ≤ gR := by have := (And.left hHeld).size; omega
        (try go_wp2_with fail)
        refine hK.out _ _ (and_of (fun hB_ => ⟨cell_up hB_ Xc0, cell_up hB_ Xc1, cell_up hB_ Xc2, cell_up hB_ Xc3, cell_up hB_ Xc4, cell_up hB_ Xc5, cell_up hB_ Xc6, cell_up hB_ Xc7, cell_up hB_ Xc8, cell_up hB_ Xc9⟩) (chain (And.left hHeld) hb)) ?_
        clear hHeld hK K
        intro hHeld
        (try simp only [Act.put, List.setIfInBounds_toArray, List.set_cons_zero, List.set_cons_succ])
        replace hy := hy.ag
        rw [← hgR] at kR hy ⊢
        clear hgR
        replace hy := hy.below hb
        generalize V1_2.alloc (.cells zcells 55) = V1_3 at *
        clear hb
        have fin_ := And.intro hHeld (And.intro hy (And.intro kR (And.intro lgR (True.intro))))
        revert fin_
        generalize V1_3 = v_0, Y6 = v_1, Y7 = v_2, Y8 = v_3, gR = v_4, y6 = v_5, y7 = v_6, y8 = v_7
        revert v_0 v_1 v_2 v_3 v_4 v_5 v_6 v_7
        exact hmain.out
      focus
        go_simp
        obtain ⟨gR, hgR⟩ : ∃ g_, g_ = V1_1.heap.size := ⟨_, rfl⟩
        have kR := blk_new V1_1 (.cells zcells 55)
        have hb := below_alloc1 V1_1 (.cells zcells 55)
        have lgR : W0.heap.size ≤ gR := by have := (And.left hHeld).size; omega
        (try go_wp2_with fail)
        refine hK.out _ _ (and_of (fun hB_ => ⟨cell_up hB_ Xc0, cell_up hB_ Xc1, cell_up hB_ Xc2, cell_up hB_ Xc3, cell_up hB_ Xc4, cell_up hB_ Xc5, cell_up hB_ Xc6, cell_up hB_ Xc7, cell_up hB_ Xc8, cell_up hB_ Xc9⟩) (chain (And.left hHeld) hb)) ?_
        clear hHeld hK K
        intro hHeld
        (try simp only [Act.put, List.setIfInBounds_toArray, List.set_cons_zero, List.set_cons_succ])
        rw [← hgR] at kR ⊢
        clear hgR
        generalize V1_1.alloc (.cells zcells 55) = V1_4 at *
        clear hb
        refine wpAnyH_ready (rs := [2]) (by kernel_rfl) (by simp) ?_
        refine AllReadyH.cons (o := _) rfl (fun K hK => ?_) AllReadyH.nil
        go_simp
        go_at_call 44
        refine (C1g.out (blk_lt kR) HXG.out).mono ?_
        rintro e_ V1_5 ⟨Y6, y6, Y7, y7, Y8, y8, rfl, hy, hb⟩
        (try go_wp2_with fail)
        refine hK.out _ _ (and_of (fun hB_ => ⟨cell_up hB_ Xc0, cell_up hB_ Xc1, cell_up hB_ Xc2, cell_up hB_ Xc3, cell_up hB_ Xc4, cell_up hB_ Xc5, cell_up hB_ Xc6, cell_up hB_ Xc7, cell_up hB_ Xc8, cell_up hB_ Xc9⟩) (chain (And.left hHeld) hb)) ?_
        clear hHeld hK K
        intro hHeld
        (try simp only [Act.put, List.setIfInBounds_toArray, List.set_cons_zero, List.set_cons_succ])
        replace kR := blk_below kR hb
        clear hb
        (first | (refine take_held (i := 3) (d := (some 9)) (v := ?_) rfl rfl (by kernel_rfl) (by kernel_rfl) (by kernel_rfl) (fun _ _ _ h => h) (Or.inl ⟨by rfl, ?_⟩) hHeld ?_; rotate_left 1; focus ((intro w hSw; (try dsimp only at hSw); first | (go_simp; done) | (go_simp; with_reducible rfl)); done); (try simp only [Act.put, List.setIfInBounds_toArray, List.set_cons_zero, List.set_cons_succ])))
        (first | (refine take_held (i := 4) (d := (some 13)) (v := ?_) rfl rfl (by kernel_rfl) (by kernel_rfl) (by kernel_rfl) (fun _ _ _ h => h) (Or.inl ⟨by rfl, ?_⟩) hHeld ?_; rotate_left 1; focus ((intro w hSw; (try dsimp only at hSw); first | (go_simp; done) | (go_simp; with_reducible rfl)); done); (try simp only [Act.put, List.setIfInBounds_toArray, List.set_cons_zero, List.set_cons_succ])))
        (first | (refine take_held (i := 5) (d := (some 14)) (v := ?_) rfl rfl (by kernel_rfl) (by kernel_rfl) (by kernel_rfl) (fun _ _ _ h => h) (Or.inl ⟨by rfl, ?_⟩) hHeld ?_; rotate_left 1; focus ((intro w hSw; (try dsimp only at hSw); first | (go_simp; done) | (go_simp; with_reducible rfl)); done); (try simp only [Act.put, List.setIfInBounds_toArray, List.set_cons_zero, List.set_cons_succ])))
        have fin_ := And.intro hHeld (And.intro hy (And.intro kR (And.intro lgR (True.intro))))
        revert fin_
        generalize V1_5 = v_0, Y6 = v_1, Y7 = v_2, Y8 = v_3, gR = v_4, y6 = v_5, y7 = v_6, y8 = v_7
        revert v_0 v_1 v_2 v_3 v_4 v_5 v_6 v_7
        exact hmain.out
    focus
      go_simp
      obtain ⟨gR, hgR⟩ : ∃ g_, g_ = V1_0.heap.size := ⟨_, rfl⟩
      have kR := blk_new V1_0 (.cells zcells 55)
      have hb := below_alloc1 V1_0 (.cells zcells 55)
      have lgR : W0.heap.size ≤ gR := by have := (And.left hHeld).size; omega
      (try go_wp2_with fail)
      refine hK.out _ _ (and_of (fun hB_ => ⟨cell_up hB_ Xc0, cell_up hB_ Xc1, cell_up hB_ Xc2, cell_up hB_ Xc3, cell_up hB_ Xc4, cell_up hB_ Xc5, cell_up hB_ Xc6, cell_up hB_ Xc7, cell_up hB_ Xc8, cell_up hB_ Xc9⟩) (chain (And.left hHeld) hb)) ?_
      clear hHeld hK K
      intro hHeld
      (try simp only [Act.put, List.setIfInBounds_toArray, List.set_cons_zero, List.set_cons_succ])
      rw [← hgR] at kR ⊢
      clear hgR
      generalize V1_0.alloc (.cells zcells 55) = V1_6 at *
      clear hb
      refine wpAnyH_ready (rs := [1]) (by kernel_rfl) (by simp) ?_
      refine AllReadyH.cons (o := _) rfl (fun K hK => ?_) AllReadyH.nil
      go_simp
      go_at_call 77
      refine (mkseal_c 1).mono ?_
      rintro e_ V1_7 ⟨rfl, hb⟩
      (try go_wp2_with fail)
      refine hK.out _ _ (and_of (fun hB_ => ⟨cell_up hB_ Xc0, cell_up hB_ Xc1, cell_up hB_ Xc2, cell_up hB_ Xc3, cell_up hB_ Xc4, cell_up hB_ Xc5, cell_up hB_ Xc6, cell_up hB_ Xc7, cell_up hB_ Xc8, cell_up hB_ Xc9⟩) (chain (And.left hHeld) hb)) ?_
      clear hHeld hK K
      intro hHeld
      (try simp only [Act.put, List.setIfInBounds_toArray, List.set_cons_zero, List.set_cons_succ])
      replace kR := blk_below kR hb
      clear hb
      refine wpAnyH_ready (rs := [2]) (by kernel_rfl) (by simp) ?_
      refine AllReadyH.cons (o := _) rfl (fun K hK => ?_) AllReadyH.nil
      go_simp
      go_at_call 44
      refine (C1g.out (blk_lt kR) HXG.out).mono ?_
      rintro e_ V1_8 ⟨Y6, y6, Y7, y7, Y8, y8, rfl, hy, hb⟩
      (try go_wp2_with fail)
      refine hK.out _ _ (and_of (fun hB_ => ⟨cell_up hB_ Xc0, cell_up hB_ Xc1, cell_up hB_ Xc2, cell_up hB_ Xc3, cell_up hB_ Xc4, cell_up hB_ Xc5, cell_up hB_ Xc6, cell_up hB_ Xc7, cell_up hB_ Xc8, cell_up hB_ Xc9⟩) (chain (And.left hHeld) hb)) ?_
      clear hHeld hK K
      intro hHeld
      (try simp only [Act.put, List.setIfInBounds_toArray, List.set_cons_zero, List.set_cons_succ])
      replace kR := blk_below kR hb
      clear hb
      (first | (refine take_held (i := 3) (d := (some 9)) (v := ?_) rfl rfl (by kernel_rfl) (by kernel_rfl) (by kernel_rfl) (fun _ _ _ h => h) (Or.inl ⟨by rfl, ?_⟩) hHeld ?_; rotate_left 1; focus ((intro w hSw; (try dsimp only at hSw); first | (go_simp; done) | (go_simp; with_reducible rfl)); done); (try simp only [Act.put, List.setIfInBounds_toArray, List.set_cons_zero, List.set_cons_succ])))
      (first | (refine take_held (i := 4) (d := (some 13)) (v := ?_) rfl rfl (by kernel_rfl) (by kernel_rfl) (by kernel_rfl) (fun _ _ _ h => h) (Or.inl ⟨by rfl, ?_⟩) hHeld ?_; rotate_left 1; focus ((intro w hSw; (try dsimp only at hSw); first | (go_simp; done) | (go_simp; with_reducible rfl)); done); (try simp only [Act.put, List.setIfInBounds_toArray, List.set_cons_zero, List.set_cons_succ])))
      (first | (refine take_held (i := 5) (d := (some 14)) (v := ?_) rfl rfl (by kernel_rfl) (by kernel_rfl) (by kernel_rfl) (fun _ _ _ h => h) (Or.inl ⟨by rfl, ?_⟩) hHeld ?_; rotate_left 1; focus ((intro w hSw; (try dsimp only at hSw); first | (go_simp; done) | (go_simp; with_reducible rfl)); done); (try simp only [Act.put, List.setIfInBounds_toArray, List.set_cons_zero, List.set_cons_succ])))
      have fin_ := And.intro hHeld (And.intro hy (And.intro kR (And.intro lgR (True.intro))))
      revert fin_
      generalize V1_8 = v_0, Y6 = v_1, Y7 = v_2, Y8 = v_3, gR = v_4, y6 = v_5, y7 = v_6, y8 = v_7
      revert v_0 v_1 v_2 v_3 v_4 v_5 v_6 v_7
      exact hmain.out
  case cont1 =>
    intro V1 Y6 Y7 Y8 gR y6 y7 y8 fin_
    obtain ⟨hHeld, hy, kR, lgR, _⟩ := fin_
    have bx_ := ten kR
    obtain ⟨⟨x0_, x1_, x2_, x3_, x4_, x5_, x6_, x7_, x8_, x9_⟩, ⟨y0_, y1_, y2_, y3_, y4_, y5_, y6_, y7_, y8_, y9_⟩, z_⟩ := bx_
    refine wpAnyH_ready (rs := [7]) (by kernel_rfl) (by simp) ?_
    refine AllReadyH.cons (o := _) rfl (fun K hK => ?_) AllReadyH.nil
    go_simp
    (try go_wp2_with fail)
    refine hK.out _ _ (and_of (fun hB_ => ⟨cell_up hB_ Xc0, cell_up hB_ Xc1, cell_up hB_ Xc2, cell_up hB_ Xc3, cell_up hB_ Xc4, cell_up hB_ Xc5, cell_up hB_ Xc6, cell_up hB_ Xc7, cell_up hB_ Xc8, cell_up hB_ Xc9⟩) (below10 (And.left hHeld) lgR _ _ _ _ _ _ _ _ _ _)) ?_
    clear hHeld hK K x0_ x1_ x2_ x3_ x4_ x5_ x6_ x7_ x8_ x9_ y0_ y1_ y2_ y3_ y4_ y5_ y6_ y7_ y8_ y9_ z_
    intro hHeld
    (try simp only [Act.put, List.setIfInBounds_toArray, List.set_cons_zero, List.set_cons_succ])
    replace kR := stored10 kR (.int .i64 y.f0) (.int .i64 y.f1) (.int .i64 y.f2) (.bool y.f3) (.string y.f4) (.string y.f5.f0) (.int .i64 y.f5.f1) (.slice Y6 y.f6.length y6) (.slice Y7 y.f7.length y7) (.slice Y8 y.f8.length y8)
    replace hy := hy.stored10 (.int .i64 y.f0) (.int .i64 y.f1) (.int .i64 y.f2) (.bool y.f3) (.string y.f4) (.string y.f5.f0) (.int .i64 y.f5.f1) (.slice Y6 y.f6.length y6) (.slice Y7 y.f7.length y7) (.slice Y8 y.f8.length y8)
    generalize World.setCell (World.setCell (World.setCell (World.setCell (World.setCell (World.setCell (World.setCell (World.setCell (World.setCell (World.setCell (V1) _ _) _ _) _ _) _ _) _ _) _ _) _ _) _ _) _ _) _ _ = V1_9 at hHeld kR hy ⊢
    (first | (refine take_held (i := 8) (d := (some 3)) (v := ?_) rfl rfl (by kernel_rfl) (by kernel_rfl) (by kernel_rfl) (fun _ _ _ h => h) (Or.inl ⟨by rfl, ?_⟩) hHeld ?_; rotate_left 1; focus ((intro w hSw; (try dsimp only at hSw); first | (go_simp; done) | (go_simp; with_reducible rfl)); done); (try simp only [Act.put, List.setIfInBounds_toArray, List.set_cons_zero, List.set_cons_succ])))
    refine wpAnyH_done (by kernel_rfl) ?_ _
    have bW_ := And.left hHeld
    clear hHeld
    replace hy := RVg.rv hy
    clear Xc0 Xc1 Xc2 Xc3 Xc4 Xc5 Xc6 Xc7 Xc8 Xc9 Xf0 Xf1 Xf2 Xf3 Xf4 Xf5 Xf6 Xf7 Xf8 Xf9 Xl
    have b_2 := chain b_1 bW_
    replace kX := blk_below kX bW_
    clear b_1
    clear bW_
    obtain ⟨⟨Xc0, Xc1, Xc2, Xc3, Xc4, Xc5, Xc6, Xc7, Xc8, Xc9⟩, ⟨Xf0, Xf1, Xf2, Xf3, Xf4, Xf5, Xf6, Xf7, Xf8, Xf9⟩, Xl⟩ := ten kX
    obtain ⟨⟨Rc0, Rc1, Rc2, Rc3, Rc4, Rc5, Rc6, Rc7, Rc8, Rc9⟩, ⟨Rf0, Rf1, Rf2, Rf3, Rf4, Rf5, Rf6, Rf7, Rf8, Rf9⟩, Rl⟩ := ten kR
    go_wp2_with fail
    refine with_cont (G := ?G2) ?cont2 fun hmain => ?reg2
    case reg2 =>
      refine wp_region_held_drew (S := (fun w' => Below V1_9.heap.size V1_9 w' ∧ w'.cell? ⟨gR, 0, none⟩ = some (.int .i64 y.f0) ∧ w'.cell? ⟨gR, 1, none⟩ = some (.int .i64 y.f1) ∧ w'.cell? ⟨gR, 2, none⟩ = some (.int .i64 y.f2) ∧ w'.cell? ⟨gR, 3, none⟩ = some (.bool y.f3) ∧ w'.cell? ⟨gR, 4, none⟩ = some (.string y.f4) ∧ w'.cell? ⟨gR, 5, none⟩ = some (.string y.f5.f0) ∧ w'.cell? ⟨gR, 6, none⟩ = some (.int .i64 y.f5.f1) ∧ w'.cell? ⟨gR, 7, none⟩ = some (.slice Y6 y.f6.length y6) ∧ w'.cell? ⟨gR, 8, none⟩ = some (.slice Y7 y.f7.length y7) ∧ w'.cell? ⟨gR, 9, none⟩ = some (.slice Y8 y.f8.length y8))) (by kernel_rfl) ?_ (fun hHeld => ?_)
      · exact (and_of (fun hB_ => ⟨cell_up hB_ Rc0, cell_up hB_ Rc1, cell_up hB_ Rc2, cell_up hB_ Rc3, cell_up hB_ Rc4, cell_up hB_ Rc5, cell_up hB_ Rc6, cell_up hB_ Rc7, cell_up hB_ Rc8, cell_up hB_ Rc9⟩) ((Below.refl _ _).drew))
      have bd_ : Below V1_9.heap.size V1_9 V1_9.drew := (Below.refl _ _).drew
      generalize V1_9.drew = V2_0 at hHeld bd_ ⊢
      clear bd_
      (first | (refine take_held (i := 0) (d := (some 16)) (v := ?_) rfl rfl (by kernel_rfl) (by kernel_rfl) (by kernel_rfl) (fun _ _ _ h => h) (Or.inl ⟨by rfl, ?_⟩) hHeld ?_; rotate_left 1; focus ((intro w hSw; (try dsimp only at hSw); first | (go_simp; done) | (go_simp; with_reducible rfl)); done); (try simp only [Act.put, List.setIfInBounds_toArray, List.set_cons_zero, List.set_cons_succ])))
      refine wpAnyH_ready (rs := [1, 6]) (by kernel_rfl) (by simp) ?_
      refine AllReadyH.cons (o := _) rfl (fun K hK => ?_) (AllReadyH.cons (o := _) rfl (fun K hK => ?_) AllReadyH.nil)
      focus
        go_simp
        go_at_call 77
        refine (mkseal_c 1).mono ?_
        rintro e_ V2_1 ⟨rfl, hb⟩
        (try go_wp2_with fail)
        refine hK.out _ _ (and_of (fun hB_ => ⟨cell_up hB_ Rc0, cell_up hB_ Rc1, cell_up hB_ Rc2, cell_up hB_ Rc3, cell_up hB_ Rc4, cell_up hB_ Rc5, cell_up hB_ Rc6, cell_up hB_ Rc7, cell_up hB_ Rc8, cell_up hB_ Rc9⟩) (chain (And.left hHeld) hb)) ?_
        clear hHeld hK K
        intro hHeld
        (try simp only [Act.put, List.setIfInBounds_toArray, List.set_cons_zero, List.set_cons_succ])
        clear hb
        refine wpAnyH_ready (rs := [2, 6]) (by kernel_rfl) (by simp) ?_
        refine AllReadyH.cons (o := _) rfl (fun K hK => ?_) (AllReadyH.cons (o := _) rfl (fun K hK => ?_) AllReadyH.nil)
        focus
          go_simp
          go_at_call 44
          refine (C2.out (hy.below (And.left hHeld))).mono ?_
          rintro e_ V2_2 ⟨U6, u6, U7, u7, U8, u8, rfl, hu, hb⟩
          (try go_wp2_with fail)
          refine hK.out _ _ (and_of (fun hB_ => ⟨cell_up hB_ Rc0, cell_up hB_ Rc1, cell_up hB_ Rc2, cell_up hB_ Rc3, cell_up hB_ Rc4, cell_up hB_ Rc5, cell_up hB_ Rc6, cell_up hB_ Rc7, cell_up hB_ Rc8, cell_up hB_ Rc9⟩) (chain (And.left hHeld) hb)) ?_
          clear hHeld hK K
          intro hHeld
          (try simp only [Act.put, List.setIfInBounds_toArray, List.set_cons_zero, List.set_cons_succ])
          clear hb
          (first | (refine take_held (i := 3) (d := (some 15)) (v := ?_) rfl rfl (by kernel_rfl) (by kernel_rfl) (by kernel_rfl) (fun _ _ _ h => h) (Or.inl ⟨by rfl, ?_⟩) hHeld ?_; rotate_left 1; focus ((intro w hSw; (try dsimp only at hSw); first | (go_simp; done) | (go_simp; with_reducible rfl)); done); (try simp only [Act.put, List.setIfInBounds_toArray, List.set_cons_zero, List.set_cons_succ])))
          (first | (refine take_held (i := 4) (d := (some 19)) (v := ?_) rfl rfl (by kernel_rfl) (by kernel_rfl) (by kernel_rfl) (fun _ _ _ h => h) (Or.inl ⟨by rfl, ?_⟩) hHeld ?_; rotate_left 1; focus ((intro w hSw; (try dsimp only at hSw); first | (go_simp; done) | (go_simp; with_reducible rfl)); done); (try simp only [Act.put, List.setIfInBounds_toArray, List.set_cons_zero, List.set_cons_succ])))
          (first | (refine take_held (i := 5) (d := (some 20)) (v := ?_) rfl rfl (by kernel_rfl) (by kernel_rfl) (by kernel_rfl) (fun _ _ _ h => h) (Or.inl ⟨by rfl, ?_⟩) hHeld ?_; rotate_left 1; focus ((intro w hSw; (try dsimp only at hSw); first | (go_simp; done) | (go_simp; with_reducible rfl)); done); (try simp only [Act.put, List.setIfInBounds_toArray, List.set_cons_zero, List.set_cons_succ])))
          refine wpAnyH_ready (rs := [6]) (by kernel_rfl) (by simp) ?_
          refine AllReadyH.cons (o := _) rfl (fun K hK => ?_) AllReadyH.nil
          go_simp
          obtain ⟨gQ, hgQ⟩ : ∃ g_, g_ = V2_2.heap.size := ⟨_, rfl⟩
          have kQ := blk_new V2_2 (.cells zcells 55)
          have hb := below_alloc1 V2_2 (.cells zcells 55)
          have lgQ : V1_9.heap.size ≤ gQ := by have := (And.left hHeld).size; omega
          (try go_wp2_with fail)
          refine hK.out _ _ (and_of (fun hB_ => ⟨cell_up hB_ Rc0, cell_up hB_ Rc1, cell_up hB_ Rc2, cell_up hB_ Rc3, cell_up hB_ Rc4, cell_up hB_ Rc5, cell_up hB_ Rc6, cell_up hB_ Rc7, cell_up hB_ Rc8, cell_up hB_ Rc9⟩) (chain (And.left hHeld) hb)) ?_
          clear hHeld hK K
          intro hHeld
          (try simp only [Act.put, List.setIfInBounds_toArray, List.set_cons_zero, List.set_cons_succ])
          replace hu := hu.ag
          rw [← hgQ] at kQ hu ⊢
          clear hgQ
          replace hu := hu.below hb
          generalize V2_2.alloc (.cells zcells 55) = V2_3 at *
          clear hb
          have fin_ := And.intro hHeld (And.intro hu (And.intro kQ (And.intro lgQ (True.intro))))
          revert fin_
          generalize V2_3 = v_0, U6 = v_1, U7 = v_2, U8 = v_3, gQ = v_4, u6 = v_5, u7 = v_6, u8 = v_7
          revert v_0 v_1 v_2 v_3 v_4 v_5 v_6 v_7
          exact hmain.out
        focus
          go_simp
          obtain ⟨gQ, hgQ⟩ : ∃ g_, g_ = V2_1.heap.size := ⟨_, rfl⟩
          have kQ := blk_new V2_1 (.cells zcells 55)
          have hb := below_alloc1 V2_1 (.cells zcells 55)
          have lgQ : V1_9.heap.size ≤ gQ := by have := (And.left hHeld).size; omega
          (try go_wp2_with fail)
          refine hK.out _ _ (and_of (fun hB_ => ⟨cell_up hB_ Rc0, cell_up hB_ Rc1, cell_up hB_ Rc2, cell_up hB_ Rc3, cell_up hB_ Rc4, cell_up hB_ Rc5, cell_up hB_ Rc6, cell_up hB_ Rc7, cell_up hB_ Rc8, cell_up hB_ Rc9⟩) (chain (And.left hHeld) hb)) ?_
          clear hHeld hK K
          intro hHeld
          (try simp only [Act.put, List.setIfInBounds_toArray, List.set_cons_zero, List.set_cons_succ])
          rw [← hgQ] at kQ ⊢
          clear hgQ
          generalize V2_1.alloc (.cells zcells 55) = V2_4 at *
          clear hb
          refine wpAnyH_ready (rs := [2]) (by kernel_rfl) (by simp) ?_
          refine AllReadyH.cons (o := _) rfl (fun K hK => ?_) AllReadyH.nil
          go_simp
          go_at_call 44
          refine (C2g.out (blk_lt kQ) (hy.gg (And.left hHeld) lgQ)).mono ?_
          rintro e_ V2_5 ⟨U6, u6, U7, u7, U8, u8, rfl, hu, hb⟩
          (try go_wp2_with fail)
          refine hK.out _ _ (and_of (fun hB_ => ⟨cell_up hB_ Rc0, cell_up hB_ Rc1, cell_up hB_ Rc2, cell_up hB_ Rc3, cell_up hB_ Rc4, cell_up hB_ Rc5, cell_up hB_ Rc6, cell_up hB_ Rc7, cell_up hB_ Rc8, cell_up hB_ Rc9⟩) (chain (And.left hHeld) hb)) ?_
          clear hHeld hK K
          intro hHeld
          (try simp only [Act.put, List.setIfInBounds_toArray, List.set_cons_zero, List.set_cons_succ])
          replace kQ := blk_below kQ hb
          clear hb
          (first | (refine take_held (i := 3) (d := (some 15)) (v := ?_) rfl rfl (by kernel_rfl) (by kernel_rfl) (by kernel_rfl) (fun _ _ _ h => h) (Or.inl ⟨by rfl, ?_⟩) hHeld ?_; rotate_left 1; focus ((intro w hSw; (try dsimp only at hSw); first | (go_simp; done) | (go_simp; with_reducible rfl)); done); (try simp only [Act.put, List.setIfInBounds_toArray, List.set_cons_zero, List.set_cons_succ])))
          (first | (refine take_held (i := 4) (d := (some 19)) (v := ?_) rfl rfl (by kernel_rfl) (by kernel_rfl) (by kernel_rfl) (fun _ _ _ h => h) (Or.inl ⟨by rfl, ?_⟩) hHeld ?_; rotate_left 1; focus ((intro w hSw; (try dsimp only at hSw); first | (go_simp; done) | (go_simp; with_reducible rfl)); done); (try simp only [Act.put, List.setIfInBounds_toArray, List.set_cons_zero, List.set_cons_succ])))
          (first | (refine take_held (i := 5) (d := (some 20)) (v := ?_) rfl rfl (by kernel_rfl) (by kernel_rfl) (by kernel_rfl) (fun _ _ _ h => h) (Or.inl ⟨by rfl, ?_⟩) hHeld ?_; rotate_left 1; focus ((intro w hSw; (try dsimp only at hSw); first | (go_simp; done) | (go_simp; with_reducible rfl)); done); (try simp only [Act.put, List.setIfInBounds_toArray, List.set_cons_zero, List.set_cons_succ])))
          have fin_ := And.intro hHeld (And.intro hu (And.intro kQ (And.intro lgQ (True.intro))))
          revert fin_
          generalize V2_5 = v_0, U6 = v_1, U7 = v_2, U8 = v_3, gQ = v_4, u6 = v_5, u7 = v_6, u8 = v_7
          revert v_0 v_1 v_2 v_3 v_4 v_5 v_6 v_7
          exact hmain.out
      focus
        go_simp
        obtain ⟨gQ, hgQ⟩ : ∃ g_, g_ = V2_0.heap.size := ⟨_, rfl⟩
        have kQ := blk_new V2_0 (.cells zcells 55)
        have hb := below_alloc1 V2_0 (.cells zcells 55)
        have lgQ : V1_9.heap.size ≤ gQ := by have := (And.left hHeld).size; omega
        (try go_wp2_with fail)
        refine hK.out _ _ (and_of (fun hB_ => ⟨cell_up hB_ Rc0, cell_up hB_ Rc1, cell_up hB_ Rc2, cell_up hB_ Rc3, cell_up hB_ Rc4, cell_up hB_ Rc5, cell_up hB_ Rc6, cell_up hB_ Rc7, cell_up hB_ Rc8, cell_up hB_ Rc9⟩) (chain (And.left hHeld) hb)) ?_
        clear hHeld hK K
        intro hHeld
        (try simp only [Act.put, List.setIfInBounds_toArray, List.set_cons_zero, List.set_cons_succ])
        rw [← hgQ] at kQ ⊢
        clear hgQ
        generalize V2_0.alloc (.cells zcells 55) = V2_6 at *
        clear hb
        refine wpAnyH_ready (rs := [1]) (by kernel_rfl) (by simp) ?_
        refine AllReadyH.cons (o := _) rfl (fun K hK => ?_) AllReadyH.nil
        go_simp
        go_at_call 77
        refine (mkseal_c 1).mono ?_
        rintro e_ V2_7 ⟨rfl, hb⟩
        (try go_wp2_with fail)
        refine hK.out _ _ (and_of (fun hB_ => ⟨cell_up hB_ Rc0, cell_up hB_ Rc1, cell_up hB_ Rc2, cell_up hB_ Rc3, cell_up hB_ Rc4, cell_up hB_ Rc5, cell_up hB_ Rc6, cell_up hB_ Rc7, cell_up hB_ Rc8, cell_up hB_ Rc9⟩) (chain (And.left hHeld) hb)) ?_
        clear hHeld hK K
        intro hHeld
        (try simp only [Act.put, List.setIfInBounds_toArray, List.set_cons_zero, List.set_cons_succ])
        replace kQ := blk_below kQ hb
        clear hb
        refine wpAnyH_ready (rs := [2]) (by kernel_rfl) (by simp) ?_
        refine AllReadyH.cons (o := _) rfl (fun K hK => ?_) AllReadyH.nil
        go_simp
        go_at_call 44
        refine (C2g.out (blk_lt kQ) (hy.gg (And.left hHeld) lgQ)).mono ?_
        rintro e_ V2_8 ⟨U6, u6, U7, u7, U8, u8, rfl, hu, hb⟩
        (try go_wp2_with fail)
        refine hK.out _ _ (and_of (fun hB_ => ⟨cell_up hB_ Rc0, cell_up hB_ Rc1, cell_up hB_ Rc2, cell_up hB_ Rc3, cell_up hB_ Rc4, cell_up hB_ Rc5, cell_up hB_ Rc6, cell_up hB_ Rc7, cell_up hB_ Rc8, cell_up hB_ Rc9⟩) (chain (And.left hHeld) hb)) ?_
        clear hHeld hK K
        intro hHeld
        (try simp only [Act.put, List.setIfInBounds_toArray, List.set_cons_zero, List.set_cons_succ])
        replace kQ := blk_below kQ hb
        clear hb
        (first | (refine take_held (i := 3) (d := (some 15)) (v := ?_) rfl rfl (by kernel_rfl) (by kernel_rfl) (by kernel_rfl) (fun _ _ _ h => h) (Or.inl ⟨by rfl, ?_⟩) hHeld ?_; rotate_left 1; focus ((intro w hSw; (try dsimp only at hSw); first | (go_simp; done) | (go_simp; with_reducible rfl)); done); (try simp only [Act.put, List.setIfInBounds_toArray, List.set_cons_zero, List.set_cons_succ])))
        (first | (refine take_held (i := 4) (d := (some 19)) (v := ?_) rfl rfl (by kernel_rfl) (by kernel_rfl) (by kernel_rfl) (fun _ _ _ h => h) (Or.inl ⟨by rfl, ?_⟩) hHeld ?_; rotate_left 1; focus ((intro w hSw; (try dsimp only at hSw); first | (go_simp; done) | (go_simp; with_reducible rfl)); done); (try simp only [Act.put, List.setIfInBounds_toArray, List.set_cons_zero, List.set_cons_succ])))
        (first | (refine take_held (i := 5) (d := (some 20)) (v := ?_) rfl rfl (by kernel_rfl) (by kernel_rfl) (by kernel_rfl) (fun _ _ _ h => h) (Or.inl ⟨by rfl, ?_⟩) hHeld ?_; rotate_left 1; focus ((intro w hSw; (try dsimp only at hSw); first | (go_simp; done) | (go_simp; with_reducible rfl)); done); (try simp only [Act.put, List.setIfInBounds_toArray, List.set_cons_zero, List.set_cons_succ])))
        have fin_ := And.intro hHeld (And.intro hu (And.intro kQ (And.intro lgQ (True.intro))))
        revert fin_
        generalize V2_8 = v_0, U6 = v_1, U7 = v_2, U8 = v_3, gQ = v_4, u6 = v_5, u7 = v_6, u8 = v_7
        revert v_0 v_1 v_2 v_3 v_4 v_5 v_6 v_7
        exact hmain.out
    case cont2 =>
      intro V2 U6 U7 U8 gQ u6 u7 u8 fin_
      obtain ⟨hHeld, hu, kQ, lgQ, _⟩ := fin_
      have bx_ := ten kQ
      obtain ⟨⟨x0_, x1_, x2_, x3_, x4_, x5_, x6_, x7_, x8_, x9_⟩, ⟨y0_, y1_, y2_, y3_, y4_, y5_, y6_, y7_, y8_, y9_⟩, z_⟩ := bx_
      refine wpAnyH_ready (rs := [7]) (by kernel_rfl) (by simp) ?_
      refine AllReadyH.cons (o := _) rfl (fun K hK => ?_) AllReadyH.nil
      go_simp
      (try go_wp2_with fail)
      refine hK.out _ _ (and_of (fun hB_ => ⟨cell_up hB_ Rc0, cell_up hB_ Rc1, cell_up hB_ Rc2, cell_up hB_ Rc3, cell_up hB_ Rc4, cell_up hB_ Rc5, cell_up hB_ Rc6, cell_up hB_ Rc7, cell_up hB_ Rc8, cell_up hB_ Rc9⟩) (below10 (And.left hHeld) lgQ _ _ _ _ _ _ _ _ _ _)) ?_
      clear hHeld hK K x0_ x1_ x2_ x3_ x4_ x5_ x6_ x7_ x8_ x9_ y0_ y1_ y2_ y3_ y4_ y5_ y6_ y7_ y8_ y9_ z_
      intro hHeld
      (try simp only [Act.put, List.setIfInBounds_toArray, List.set_cons_zero, List.set_cons_succ])
      replace kQ := stored10 kQ (.int .i64 x.f0) (.int .i64 x.f1) (.int .i64 x.f2) (.bool x.f3) (.string x.f4) (.string x.f5.f0) (.int .i64 x.f5.f1) (.slice U6 x.f6.length u6) (.slice U7 x.f7.length u7) (.slice U8 x.f8.length u8)
      replace hu := hu.stored10 (.int .i64 x.f0) (.int .i64 x.f1) (.int .i64 x.f2) (.bool x.f3) (.string x.f4) (.string x.f5.f0) (.int .i64 x.f5.f1) (.slice U6 x.f6.length u6) (.slice U7 x.f7.length u7) (.slice U8 x.f8.length u8)
      generalize World.setCell (World.setCell (World.setCell (World.setCell (World.setCell (World.setCell (World.setCell (World.setCell (World.setCell (World.setCell (V2) _ _) _ _) _ _) _ _) _ _) _ _) _ _) _ _) _ _) _ _ = V2_9 at hHeld kQ hu ⊢
      (first | (refine take_held (i := 8) (d := (some 5)) (v := ?_) rfl rfl (by kernel_rfl) (by kernel_rfl) (by kernel_rfl) (fun _ _ _ h => h) (Or.inl ⟨by rfl, ?_⟩) hHeld ?_; rotate_left 1; focus ((intro w hSw; (try dsimp only at hSw); first | (go_simp; done) | (go_simp; with_reducible rfl)); done); (try simp only [Act.put, List.setIfInBounds_toArray, List.set_cons_zero, List.set_cons_succ])))
      refine wpAnyH_done (by kernel_rfl) ?_ _
      have bW_ := And.left hHeld
      clear hHeld
      replace hu := RVg.rv hu
      clear Xc0 Xc1 Xc2 Xc3 Xc4 Xc5 Xc6 Xc7 Xc8 Xc9 Xf0 Xf1 Xf2 Xf3 Xf4 Xf5 Xf6 Xf7 Xf8 Xf9 Xl Rc0 Rc1 Rc2 Rc3 Rc4 Rc5 Rc6 Rc7 Rc8 Rc9 Rf0 Rf1 Rf2 Rf3 Rf4 Rf5 Rf6 Rf7 Rf8 Rf9 Rl
      have b_3 := chain b_2 bW_
      replace kX := blk_below kX bW_
      replace kR := blk_below kR bW_
      replace hy := hy.below bW_
      clear b_2
      clear bW_
      obtain ⟨⟨Xc0, Xc1, Xc2, Xc3, Xc4, Xc5, Xc6, Xc7, Xc8, Xc9⟩, ⟨Xf0, Xf1, Xf2, Xf3, Xf4, Xf5, Xf6, Xf7, Xf8, Xf9⟩, Xl⟩ := ten kX
      obtain ⟨⟨Rc0, Rc1, Rc2, Rc3, Rc4, Rc5, Rc6, Rc7, Rc8, Rc9⟩, ⟨Rf0, Rf1, Rf2, Rf3, Rf4, Rf5, Rf6, Rf7, Rf8, Rf9⟩, Rl⟩ := ten kR
      obtain ⟨⟨Qc0, Qc1, Qc2, Qc3, Qc4, Qc5, Qc6, Qc7, Qc8, Qc9⟩, ⟨Qf0, Qf1, Qf2, Qf3, Qf4, Qf5, Qf6, Qf7, Qf8, Qf9⟩, Ql⟩ := ten kQ
      go_wp2_with fail
      refine with_cont (G := ?G3) ?cont3 fun hmain => ?reg3
      case reg3 =>
        refine wp_region_held_drew (S := (fun w' => Below V2_9.heap.size V2_9 w' ∧ w'.cell? ⟨w.heap.size, 0, none⟩ = some (.int .i64 x.f0) ∧ w'.cell? ⟨w.heap.size, 1, none⟩ = some (.int .i64 x.f1) ∧ w'.cell? ⟨w.heap.size, 2, none⟩ = some (.int .i64 x.f2) ∧ w'.cell? ⟨w.heap.size, 3, none⟩ = some (.bool x.f3) ∧ w'.cell? ⟨w.heap.size, 4, none⟩ = some (.string x.f4) ∧ w'.cell? ⟨w.heap.size, 5, none⟩ = some (.string x.f5.f0) ∧ w'.cell? ⟨w.heap.size, 6, none⟩ = some (.int .i64 x.f5.f1) ∧ w'.cell? ⟨w.heap.size, 7, none⟩ = some (.slice none x.f6.length 0) ∧ w'.cell? ⟨w.heap.size, 8, none⟩ = some (.slice none x.f7.length 0) ∧ w'.cell? ⟨w.heap.size, 9, none⟩ = some (.slice none x.f8.length 0))) (by kernel_rfl) ?_ (fun hHeld => ?_)
        · exact (and_of (fun hB_ => ⟨cell_up hB_ Xc0, cell_up hB_ Xc1, cell_up hB_ Xc2, cell_up hB_ Xc3, cell_up hB_ Xc4, cell_up hB_ Xc5, cell_up hB_ Xc6, cell_up hB_ Xc7, cell_up hB_ Xc8, cell_up hB_ Xc9⟩) ((Below.refl _ _).drew))
        have bd_ : Below V2_9.heap.size V2_9 V2_9.drew := (Below.refl _ _).drew
        generalize V2_9.drew = V3_0 at hHeld bd_ ⊢
        clear bd_
        (first | (refine take_held (i := 0) (d := (some 22)) (v := ?_) rfl rfl (by kernel_rfl) (by kernel_rfl) (by kernel_rfl) (fun _ _ _ h => h) (Or.inl ⟨by rfl, ?_⟩) hHeld ?_; rotate_left 1; focus ((intro w hSw; (try dsimp only at hSw); first | (go_simp; done) | (go_simp; with_reducible rfl)); done); (try simp only [Act.put, List.setIfInBounds_toArray, List.set_cons_zero, List.set_cons_succ])))
        refine wpAnyH_ready (rs := [1, 6]) (by kernel_rfl) (by simp) ?_
        refine AllReadyH.cons (o := _) rfl (fun K hK => ?_) (AllReadyH.cons (o := _) rfl (fun K hK => ?_) AllReadyH.nil)
        focus
          go_simp
          go_at_call 77
          refine (mkseal_c 1).mono ?_
          rintro e_ V3_1 ⟨rfl, hb⟩
          (try go_wp2_with fail)
          refine hK.out _ _ (and_of (fun hB_ => ⟨cell_up hB_ Xc0, cell_up hB_ Xc1, cell_up hB_ Xc2, cell_up hB_ Xc3, cell_up hB_ Xc4, cell_up hB_ Xc5, cell_up hB_ Xc6, cell_up hB_ Xc7, cell_up hB_ Xc8, cell_up hB_ Xc9⟩) (chain (And.left hHeld) hb)) ?_
          clear hHeld hK K
          intro hHeld
          (try simp only [Act.put, List.setIfInBounds_toArray, List.set_cons_zero, List.set_cons_succ])
          clear hb
          refine wpAnyH_ready (rs := [2, 6]) (by kernel_rfl) (by simp) ?_
          refine AllReadyH.cons (o := _) rfl (fun K hK => ?_) (AllReadyH.cons (o := _) rfl (fun K hK => ?_) AllReadyH.nil)
          focus
            go_simp
            go_at_call 44
            refine (C3.out HX.out).mono ?_
            rintro e_ V3_2 ⟨Z6, z6, Z7, z7, Z8, z8, rfl, hz, hb⟩
            (try go_wp2_with fail)
            refine hK.out _ _ (and_of (fun hB_ => ⟨cell_up hB_ Xc0, cell_up hB_ Xc1, cell_up hB_ Xc2, cell_up hB_ Xc3, cell_up hB_ Xc4, cell_up hB_ Xc5, cell_up hB_ Xc6, cell_up hB_ Xc7, cell_up hB_ Xc8, cell_up hB_ Xc9⟩) (chain (And.left hHeld) hb)) ?_
            clear hHeld hK K
            intro hHeld
            (try simp only [Act.put, List.setIfInBounds_toArray, List.set_cons_zero, List.set_cons_succ])
            clear hb
            (first | (refine take_held (i := 3) (d := (some 21)) (v := ?_) rfl rfl (by kernel_rfl) (by kernel_rfl) (by kernel_rfl) (fun _ _ _ h => h) (Or.inl ⟨by rfl, ?_⟩) hHeld ?_; rotate_left 1; focus ((intro w hSw; (try dsimp only at hSw); first | (go_simp; done) | (go_simp; with_reducible rfl)); done); (try simp only [Act.put, List.setIfInBounds_toArray, List.set_cons_zero, List.set_cons_succ])))
            (first | (refine take_held (i := 4) (d := (some 25)) (v := ?_) rfl rfl (by kernel_rfl) (by kernel_rfl) (by kernel_rfl) (fun _ _ _ h => h) (Or.inl ⟨by rfl, ?_⟩) hHeld ?_; rotate_left 1; focus ((intro w hSw; (try dsimp only at hSw); first | (go_simp; done) | (go_simp; with_reducible rfl)); done); (try simp only [Act.put, List.setIfInBounds_toArray, List.set_cons_zero, List.set_cons_succ])))
            (first | (refine take_held (i := 5) (d := (some 26)) (v := ?_) rfl rfl (by kernel_rfl) (by kernel_rfl) (by kernel_rfl) (fun _ _ _ h => h) (Or.inl ⟨by rfl, ?_⟩) hHeld ?_; rotate_left 1; focus ((intro w hSw; (try dsimp only at hSw); first | (go_simp; done) | (go_simp; with_reducible rfl)); done); (try simp only [Act.put, List.setIfInBounds_toArray, List.set_cons_zero, List.set_cons_succ])))
            refine wpAnyH_ready (rs := [6]) (by kernel_rfl) (by simp) ?_
            refine AllReadyH.cons (o := _) rfl (fun K hK => ?_) AllReadyH.nil
            go_simp
            obtain ⟨gS, hgS⟩ : ∃ g_, g_ = V3_2.heap.size := ⟨_, rfl⟩
            have kS := blk_new V3_2 (.cells zcells 55)
            have hb := below_alloc1 V3_2 (.cells zcells 55)
            have lgS : V2_9.heap.size ≤ gS := by have := (And.left hHeld).size; omega
            (try go_wp2_with fail)
            refine hK.out _ _ (and_of (fun hB_ => ⟨cell_up hB_ Xc0, cell_up hB_ Xc1, cell_up hB_ Xc2, cell_up hB_ Xc3, cell_up hB_ Xc4, cell_up hB_ Xc5, cell_up hB_ Xc6, cell_up hB_ Xc7, cell_up hB_ Xc8, cell_up hB_ Xc9⟩) (chain (And.left hHeld) hb)) ?_
            clear hHeld hK K
            intro hHeld
            (try simp only [Act.put, List.setIfInBounds_toArray, List.set_cons_zero, List.set_cons_succ])
            replace hz := hz.ag
            rw [← hgS] at kS hz ⊢
            clear hgS
            replace hz := hz.below hb
            generalize V3_2.alloc (.cells zcells 55) = V3_3 at *
            clear hb
            have fin_ := And.intro hHeld (And.intro hz (And.intro kS (And.intro lgS (True.intro))))
            revert fin_
            generalize V3_3 = v_0, Z6 = v_1, Z7 = v_2, Z8 = v_3, gS = v_4, z6 = v_5, z7 = v_6, z8 = v_7
            revert v_0 v_1 v_2 v_3 v_4 v_5 v_6 v_7
            exact hmain.out
          focus
            go_simp
            obtain ⟨gS, hgS⟩ : ∃ g_, g_ = V3_1.heap.size := ⟨_, rfl⟩
            have kS := blk_new V3_1 (.cells zcells 55)
            have hb := below_alloc1 V3_1 (.cells zcells 55)
            have lgS : V2_9.heap.size ≤ gS := by have := (And.left hHeld).size; omega
            (try go_wp2_with fail)
            refine hK.out _ _ (and_of (fun hB_ => ⟨cell_up hB_ Xc0, cell_up hB_ Xc1, cell_up hB_ Xc2, cell_up hB_ Xc3, cell_up hB_ Xc4, cell_up hB_ Xc5, cell_up hB_ Xc6, cell_up hB_ Xc7, cell_up hB_ Xc8, cell_up hB_ Xc9⟩) (chain (And.left hHeld) hb)) ?_
            clear hHeld hK K
            intro hHeld
            (try simp only [Act.put, List.setIfInBounds_toArray, List.set_cons_zero, List.set_cons_succ])
            rw [← hgS] at kS ⊢
            clear hgS
            generalize V3_1.alloc (.cells zcells 55) = V3_4 at *
            clear hb
            refine wpAnyH_ready (rs := [2]) (by kernel_rfl) (by simp) ?_
            refine AllReadyH.cons (o := _) rfl (fun K hK => ?_) AllReadyH.nil
            go_simp
            go_at_call 44
            refine (C3g.out (blk_lt kS) HXG.out).mono ?_
            rintro e_ V3_5 ⟨Z6, z6, Z7, z7, Z8, z8, rfl, hz, hb⟩
            (try go_wp2_with fail)
            refine hK.out _ _ (and_of (fun hB_ => ⟨cell_up hB_ Xc0, cell_up hB_ Xc1, cell_up hB_ Xc2, cell_up hB_ Xc3, cell_up hB_ Xc4, cell_up hB_ Xc5, cell_up hB_ Xc6, cell_up hB_ Xc7, cell_up hB_ Xc8, cell_up hB_ Xc9⟩) (chain (And.left hHeld) hb)) ?_
            clear hHeld hK K
            intro hHeld
            (try simp only [Act.put, List.setIfInBounds_toArray, List.set_cons_zero, List.set_cons_succ])
            replace kS := blk_below kS hb
            clear hb
            (first | (refine take_held (i := 3) (d := (some 21)) (v := ?_) rfl rfl (by kernel_rfl) (by kernel_rfl) (by kernel_rfl) (fun _ _ _ h => h) (Or.inl ⟨by rfl, ?_⟩) hHeld ?_; rotate_left 1; focus ((intro w hSw; (try dsimp only at hSw); first | (go_simp; done) | (go_simp; with_reducible rfl)); done); (try simp only [Act.put, List.setIfInBounds_toArray, List.set_cons_zero, List.set_cons_succ])))
            (first | (refine take_held (i := 4) (d := (some 25)) (v := ?_) rfl rfl (by kernel_rfl) (by kernel_rfl) (by kernel_rfl) (fun _ _ _ h => h) (Or.inl ⟨by rfl, ?_⟩) hHeld ?_; rotate_left 1; focus ((intro w hSw; (try dsimp only at hSw); first | (go_simp; done) | (go_simp; with_reducible rfl)); done); (try simp only [Act.put, List.setIfInBounds_toArray, List.set_cons_zero, List.set_cons_succ])))
            (first | (refine take_held (i := 5) (d := (some 26)) (v := ?_) rfl rfl (by kernel_rfl) (by kernel_rfl) (by kernel_rfl) (fun _ _ _ h => h) (Or.inl ⟨by rfl, ?_⟩) hHeld ?_; rotate_left 1; focus ((intro w hSw; (try dsimp only at hSw); first | (go_simp; done) | (go_simp; with_reducible rfl)); done); (try simp only [Act.put, List.setIfInBounds_toArray, List.set_cons_zero, List.set_cons_succ])))
            have fin_ := And.intro hHeld (And.intro hz (And.intro kS (And.intro lgS (True.intro))))
            revert fin_
            generalize V3_5 = v_0, Z6 = v_1, Z7 = v_2, Z8 = v_3, gS = v_4, z6 = v_5, z7 = v_6, z8 = v_7
            revert v_0 v_1 v_2 v_3 v_4 v_5 v_6 v_7
            exact hmain.out
        focus
          go_simp
          obtain ⟨gS, hgS⟩ : ∃ g_, g_ = V3_0.heap.size := ⟨_, rfl⟩
          have kS := blk_new V3_0 (.cells zcells 55)
          have hb := below_alloc1 V3_0 (.cells zcells 55)
          have lgS : V2_9.heap.size ≤ gS := by have := (And.left hHeld).size; omega
          (try go_wp2_with fail)
          refine hK.out _ _ (and_of (fun hB_ => ⟨cell_up hB_ Xc0, cell_up hB_ Xc1, cell_up hB_ Xc2, cell_up hB_ Xc3, cell_up hB_ Xc4, cell_up hB_ Xc5, cell_up hB_ Xc6, cell_up hB_ Xc7, cell_up hB_ Xc8, cell_up hB_ Xc9⟩) (chain (And.left hHeld) hb)) ?_
          clear hHeld hK K
          intro hHeld
          (try simp only [Act.put, List.setIfInBounds_toArray, List.set_cons_zero, List.set_cons_succ])
          rw [← hgS] at kS ⊢
          clear hgS
          generalize V3_0.alloc (.cells zcells 55) = V3_6 at *
          clear hb
          refine wpAnyH_ready (rs := [1]) (by kernel_rfl) (by simp) ?_
          refine AllReadyH.cons (o := _) rfl (fun K hK => ?_) AllReadyH.nil
          go_simp
          go_at_call 77
          refine (mkseal_c 1).mono ?_
          rintro e_ V3_7 ⟨rfl, hb⟩
          (try go_wp2_with fail)
          refine hK.out _ _ (and_of (fun hB_ => ⟨cell_up hB_ Xc0, cell_up hB_ Xc1, cell_up hB_ Xc2, cell_up hB_ Xc3, cell_up hB_ Xc4, cell_up hB_ Xc5, cell_up hB_ Xc6, cell_up hB_ Xc7, cell_up hB_ Xc8, cell_up hB_ Xc9⟩) (chain (And.left hHeld) hb)) ?_
          clear hHeld hK K
          intro hHeld
          (try simp only [Act.put, List.setIfInBounds_toArray, List.set_cons_zero, List.set_cons_succ])
          replace kS := blk_below kS hb
          clear hb
          refine wpAnyH_ready (rs := [2]) (by kernel_rfl) (by simp) ?_
          refine AllReadyH.cons (o := _) rfl (fun K hK => ?_) AllReadyH.nil
          go_simp
          go_at_call 44
          refine (C3g.out (blk_lt kS) HXG.out).mono ?_
          rintro e_ V3_8 ⟨Z6, z6, Z7, z7, Z8, z8, rfl, hz, hb⟩
          (try go_wp2_with fail)
          refine hK.out _ _ (and_of (fun hB_ => ⟨cell_up hB_ Xc0, cell_up hB_ Xc1, cell_up hB_ Xc2, cell_up hB_ Xc3, cell_up hB_ Xc4, cell_up hB_ Xc5, cell_up hB_ Xc6, cell_up hB_ Xc7, cell_up hB_ Xc8, cell_up hB_ Xc9⟩) (chain (And.left hHeld) hb)) ?_
          clear hHeld hK K
          intro hHeld
          (try simp only [Act.put, List.setIfInBounds_toArray, List.set_cons_zero, List.set_cons_succ])
          replace kS := blk_below kS hb
          clear hb
          (first | (refine take_held (i := 3) (d := (some 21)) (v := ?_) rfl rfl (by kernel_rfl) (by kernel_rfl) (by kernel_rfl) (fun _ _ _ h => h) (Or.inl ⟨by rfl, ?_⟩) hHeld ?_; rotate_left 1; focus ((intro w hSw; (try dsimp only at hSw); first | (go_simp; done) | (go_simp; with_reducible rfl)); done); (try simp only [Act.put, List.setIfInBounds_toArray, List.set_cons_zero, List.set_cons_succ])))
          (first | (refine take_held (i := 4) (d := (some 25)) (v := ?_) rfl rfl (by kernel_rfl) (by kernel_rfl) (by kernel_rfl) (fun _ _ _ h => h) (Or.inl ⟨by rfl, ?_⟩) hHeld ?_; rotate_left 1; focus ((intro w hSw; (try dsimp only at hSw); first | (go_simp; done) | (go_simp; with_reducible rfl)); done); (try simp only [Act.put, List.setIfInBounds_toArray, List.set_cons_zero, List.set_cons_succ])))
          (first | (refine take_held (i := 5) (d := (some 26)) (v := ?_) rfl rfl (by kernel_rfl) (by kernel_rfl) (by kernel_rfl) (fun _ _ _ h => h) (Or.inl ⟨by rfl, ?_⟩) hHeld ?_; rotate_left 1; focus ((intro w hSw; (try dsimp only at hSw); first | (go_simp; done) | (go_simp; with_reducible rfl)); done); (try simp only [Act.put, List.setIfInBounds_toArray, List.set_cons_zero, List.set_cons_succ])))
          have fin_ := And.intro hHeld (And.intro hz (And.intro kS (And.intro lgS (True.intro))))
          revert fin_
          generalize V3_8 = v_0, Z6 = v_1, Z7 = v_2, Z8 = v_3, gS = v_4, z6 = v_5, z7 = v_6, z8 = v_7
          revert v_0 v_1 v_2 v_3 v_4 v_5 v_6 v_7
          exact hmain.out
      case cont3 =>
        intro V3 Z6 Z7 Z8 gS z6 z7 z8 fin_
        obtain ⟨hHeld, hz, kS, lgS, _⟩ := fin_
        have bx_ := ten kS
        obtain ⟨⟨x0_, x1_, x2_, x3_, x4_, x5_, x6_, x7_, x8_, x9_⟩, ⟨y0_, y1_, y2_, y3_, y4_, y5_, y6_, y7_, y8_, y9_⟩, z_⟩ := bx_
        refine wpAnyH_ready (rs := [7]) (by kernel_rfl) (by simp) ?_
        refine AllReadyH.cons (o := _) rfl (fun K hK => ?_) AllReadyH.nil
        go_simp
        (try go_wp2_with fail)
        refine hK.out _ _ (and_of (fun hB_ => ⟨cell_up hB_ Xc0, cell_up hB_ Xc1, cell_up hB_ Xc2, cell_up hB_ Xc3, cell_up hB_ Xc4, cell_up hB_ Xc5, cell_up hB_ Xc6, cell_up hB_ Xc7, cell_up hB_ Xc8, cell_up hB_ Xc9⟩) (below10 (And.left hHeld) lgS _ _ _ _ _ _ _ _ _ _)) ?_
        clear hHeld hK K x0_ x1_ x2_ x3_ x4_ x5_ x6_ x7_ x8_ x9_ y0_ y1_ y2_ y3_ y4_ y5_ y6_ y7_ y8_ y9_ z_
        intro hHeld
        (try simp only [Act.put, List.setIfInBounds_toArray, List.set_cons_zero, List.set_cons_succ])
        replace kS := stored10 kS (.int .i64 z.f0) (.int .i64 z.f1) (.int .i64 z.f2) (.bool z.f3) (.string z.f4) (.string z.f5.f0) (.int .i64 z.f5.f1) (.slice Z6 z.f6.length z6) (.slice Z7 z.f7.length z7) (.slice Z8 z.f8.length z8)
        replace hz := hz.stored10 (.int .i64 z.f0) (.int .i64 z.f1) (.int .i64 z.f2) (.bool z.f3) (.string z.f4) (.string z.f5.f0) (.int .i64 z.f5.f1) (.slice Z6 z.f6.length z6) (.slice Z7 z.f7.length z7) (.slice Z8 z.f8.length z8)
        generalize World.setCell (World.setCell (World.setCell (World.setCell (World.setCell (World.setCell (World.setCell (World.setCell (World.setCell (World.setCell (V3) _ _) _ _) _ _) _ _) _ _) _ _) _ _) _ _) _ _) _ _ = V3_9 at hHeld kS hz ⊢
        (first | (refine take_held (i := 8) (d := (some 7)) (v := ?_) rfl rfl (by kernel_rfl) (by kernel_rfl) (by kernel_rfl) (fun _ _ _ h => h) (Or.inl ⟨by rfl, ?_⟩) hHeld ?_; rotate_left 1; focus ((intro w hSw; (try dsimp only at hSw); first | (go_simp; done) | (go_simp; with_reducible rfl)); done); (try simp only [Act.put, List.setIfInBounds_toArray, List.set_cons_zero, List.set_cons_succ])))
        refine wpAnyH_done (by kernel_rfl) ?_ _
        have bW_ := And.left hHeld
        clear hHeld
        replace hz := RVg.rv hz
        clear Xc0 Xc1 Xc2 Xc3 Xc4 Xc5 Xc6 Xc7 Xc8 Xc9 Xf0 Xf1 Xf2 Xf3 Xf4 Xf5 Xf6 Xf7 Xf8 Xf9 Xl Rc0 Rc1 Rc2 Rc3 Rc4 Rc5 Rc6 Rc7 Rc8 Rc9 Rf0 Rf1 Rf2 Rf3 Rf4 Rf5 Rf6 Rf7 Rf8 Rf9 Rl Qc0 Qc1 Qc2 Qc3 Qc4 Qc5 Qc6 Qc7 Qc8 Qc9 Qf0 Qf1 Qf2 Qf3 Qf4 Qf5 Qf6 Qf7 Qf8 Qf9 Ql
        have b_4 := chain b_3 bW_
        replace kX := blk_below kX bW_
        replace kR := blk_below kR bW_
        replace kQ := blk_below kQ bW_
        replace hy := hy.below bW_
        replace hu := hu.below bW_
        clear b_3
        clear bW_
        obtain ⟨⟨Xc0, Xc1, Xc2, Xc3, Xc4, Xc5, Xc6, Xc7, Xc8, Xc9⟩, ⟨Xf0, Xf1, Xf2, Xf3, Xf4, Xf5, Xf6, Xf7, Xf8, Xf9⟩, Xl⟩ := ten kX
        obtain ⟨⟨Rc0, Rc1, Rc2, Rc3, Rc4, Rc5, Rc6, Rc7, Rc8, Rc9⟩, ⟨Rf0, Rf1, Rf2, Rf3, Rf4, Rf5, Rf6, Rf7, Rf8, Rf9⟩, Rl⟩ := ten kR
        obtain ⟨⟨Qc0, Qc1, Qc2, Qc3, Qc4, Qc5, Qc6, Qc7, Qc8, Qc9⟩, ⟨Qf0, Qf1, Qf2, Qf3, Qf4, Qf5, Qf6, Qf7, Qf8, Qf9⟩, Ql⟩ := ten kQ
        obtain ⟨⟨Sc0, Sc1, Sc2, Sc3, Sc4, Sc5, Sc6, Sc7, Sc8, Sc9⟩, ⟨Sf0, Sf1, Sf2, Sf3, Sf4, Sf5, Sf6, Sf7, Sf8, Sf9⟩, Sl⟩ := ten kS
        replace Qc1 := Qc1.trans (congrArg (fun z => some (Value.int .i64 z)) HX1.out)
        replace Rc0 := Rc0.trans (congrArg (fun z => some (Value.int .i64 z)) HY0.out)
        replace Rc1 := Rc1.trans (congrArg (fun z => some (Value.int .i64 z)) HY1.out)
        go_wp2_with fail
        refine (mkseal_c 1).mono ?_
        rintro e_ w7 ⟨rfl, hb⟩
        have b7 := chain b_4 hb
        clear hb
        clear Xc0 Xc1 Xc2 Xc3 Xc4 Xc5 Xc6 Xc7 Xc8 Xc9 Xf0 Xf1 Xf2 Xf3 Xf4 Xf5 Xf6 Xf7 Xf8 Xf9 Xl Rc0 Rc1 Rc2 Rc3 Rc4 Rc5 Rc6 Rc7 Rc8 Rc9 Rf0 Rf1 Rf2 Rf3 Rf4 Rf5 Rf6 Rf7 Rf8 Rf9 Rl Qc0 Qc1 Qc2 Qc3 Qc4 Qc5 Qc6 Qc7 Qc8 Qc9 Qf0 Qf1 Qf2 Qf3 Qf4 Qf5 Qf6 Qf7 Qf8 Qf9 Ql Sc0 Sc1 Sc2 Sc3 Sc4 Sc5 Sc6 Sc7 Sc8 Sc9 Sf0 Sf1 Sf2 Sf3 Sf4 Sf5 Sf6 Sf7 Sf8 Sf9 Sl
        go_wp2_with fail
        refine dyn_c.mono ?_
        rintro e_ w8 ⟨rfl, hb⟩
        have b8 := chain b7 hb
        clear hb
        go_wp2_with fail
        refine (mkfun_c (sealT 1) dynT (RT.leaf _ _ _ _) (RT.leaf _ _ _ _)).mono ?_
        rintro e_ w9 ⟨F3, f3, F4, f4, rfl, hf, hb⟩
        have b9 := chain b8 hb
        clear hb
        go_wp2_with fail
        refine (chas_c 0 2 (funT (sealT 1) dynT) (okt_fun (sealT 1) dynT (okt_seal 1) okt_dyn) hf).mono ?_
        rintro e_ w10 ⟨rfl, hb⟩
        have b10 := chain b9 hb
        clear hb
        rw [HW.out]
        go_wp2
        go_ret
        exact ⟨rfl, b10⟩
end Go.Proofs.Ytnfnhjhnfdkinaa.PConvBack

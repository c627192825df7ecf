/- Functions of the program as Lean functions, and that the Go code comes to what they say, for every input on which they answer. Written by a program of this session. -/
import Derived.Test.YtalmhbiedkjpmaaPEnvPlaysx0
import Derived.Test.YtalmhbiedkjpmaaPEnvPlaysx3
namespace Go.Proofs.Ytalmhbiedkjpmaa.PEnvPlays
open Go.RowKit Go.Proofs.YtalmhbiedkjpmaaW.Mine Go.Proofs.YtalmhbiedkjpmaaW.PrintWords Go.Proofs.YtalmhbiedkjpmaaW.PrintLast Go.Proofs.YtalmhbiedkjpmaaW.PrintMore
attribute [local go_sem] max2_int min2_int max_two min_two max_three min_three max_four min_four   -- for this text's walks alone
set_option linter.unusedVariables false
set_option linter.unusedSimpArgs false

/-! ### limbecklaw07_Few: function 31 -/
def limbecklaw07_Few.l0 : Nat → List (S33) → Int → Int → Option (Int)
  | 0, _, _, _ => none
  | k + 1, x0, x3, x4 => if x4 < (x0.length : Int) then (if x4 < 20 then (if 0 ≤ x4 then ((limbecklaw04_Much.f k ((rd_T33 x0 x4).f1.f0) ((rd_T33 x0 x4).f1.f1) ((rd_T33 x0 x4).f1.f2) ((rd_T33 x0 x4).f1.f3) ((rd_T33 x0 x4).f1.f4)).bind fun t144 => (limbecklaw07_Few.l0 k x0 (mx (mx x3 t144) (wrap64 ((((rd_T33 x0 x4).f0).size : Int) / 8))) (wrap64 (x4 + 1)))) else (none)) else (if (x0.length : Int) > 20 then (some 5000) else (some x3))) else (if (x0.length : Int) > 20 then (some 5000) else (some x3))
def limbecklaw07_Few.f (k : Nat) (l0 : List (S33)) : Option (Int) := limbecklaw07_Few.l0 k l0 0 0
theorem limbecklaw07_Few.mono_l : ∀ k, (∀ y0 y1 y2, LeO (limbecklaw07_Few.l0 k y0 y1 y2) (limbecklaw07_Few.l0 (k + 1) y0 y1 y2))
  | 0 => fun _ _ _ r h => by simp [limbecklaw07_Few.l0] at h
  | k + 1 => by
    have ih0 := limbecklaw07_Few.mono_l k
    · intro y0 y1 y2
      unfold limbecklaw07_Few.l0
      repeat' first
      | (with_reducible exact ih0 _ _ _)
      | (with_reducible exact limbecklaw04_Much.mono _ _ _ _ _ _)
      | (with_reducible exact LeO.refl _)
      | (with_reducible exact LeO.none _)
      | (with_reducible refine LeO.ite ?_ ?_)
      | (with_reducible refine LeO.bind ?_ (fun _ => ?_))
      | exact ih0 _ _ _
      | exact limbecklaw04_Much.mono _ _ _ _ _ _
      | exact LeO.none _
      | refine LeO.ite ?_ ?_
      | refine LeO.bind ?_ (fun _ => ?_)
theorem limbecklaw07_Few.mono : ∀ a0 k, LeO (limbecklaw07_Few.f k a0) (limbecklaw07_Few.f (k + 1) a0) := by
  intro a0 k
  have ih0 := limbecklaw07_Few.mono_l k
  unfold limbecklaw07_Few.f
  repeat' first
      | (with_reducible exact ih0 _ _ _)
      | (with_reducible exact limbecklaw04_Much.mono _ _ _ _ _ _)
      | (with_reducible exact LeO.refl _)
      | (with_reducible exact LeO.none _)
      | (with_reducible refine LeO.ite ?_ ?_)
      | (with_reducible refine LeO.bind ?_ (fun _ => ?_))
      | exact ih0 _ _ _
      | exact limbecklaw04_Much.mono _ _ _ _ _ _
      | exact LeO.none _
      | refine LeO.ite ?_ ?_
      | refine LeO.bind ?_ (fun _ => ?_)
def limbecklaw07_Few.T5 : Bool × List (List Nat × List Nat) := (true, [([], []), ([], []), ([], []), ([1, 2], [1, 2]), ([3], [3]), ([4], [4]), ([5], [5]), ([], []), ([], []), ([7, 8], [7, 8]), ([9], [9]), ([10], [10]), ([11], [11]), ([12], [12]), ([0, 6, 13], [0, 6, 13]), ([14, 6, 0, 1, 2, 3, 4, 5, 6, 7, 8, 9, 10, 11, 12, 13, 14], [0, 14])])
def limbecklaw07_Few.B5 : List Nat := [0, 0, 0, 6, 14, 30, 62, 0, 0, 384, 896, 1920, 3968, 8064, 16383, 32767]
theorem limbecklaw07_Few.tab5 : rtab .any (opsOf Try.f31 5) = limbecklaw07_Few.T5 := by kernel_rfl
theorem limbecklaw07_Few.bits5 : waitsOk limbecklaw07_Few.T5.2 limbecklaw07_Few.B5 = true := by kernel_rfl
set_option maxHeartbeats 8000000 in
set_option maxRecDepth 100000 in
theorem limbecklaw07_Few.calls (k : Nat) (A0 : Option Addr) (c0 : Nat) (l0 : List (S33)) (r : Int) (w : World) (hr0 : Kd.C k33 w A0 l0.length l0) (hc0 : l0.length ≤ c0) (h : limbecklaw07_Few.f k l0 = some r) :
    Calls Try.prog 31 #[.slice A0 l0.length c0] w fun e w' => e = .returned (.int .i64 r) ∧ Below w.heap.size w w' := by
  have hu31 := Try.underlying31
  have HR0 := Aside0.mk hr0
  have HC0 := Aside0.mk hc0
  clear hr0 hc0
  have HB := Aside0.mk (Below.refl w.heap.size w)
  have H : (limbecklaw07_Few.l0 k l0 0 0) = some r := h
  clear h
  have H' := Aside0.mk H
  clear H
  go_enter Try.func31, Try.ntmps31
  go_wp2
  go_loopg [3, 4] k (fun kq v3 v4 w' => ∃ (x3_1 : Int) (x4_1 : Int), v3 = .int .i64 x3_1 ∧ v4 = .int .i64 x4_1 ∧ Aside0 (limbecklaw07_Few.l0 kq l0 x3_1 x4_1 = some r) ∧ Aside0 (kq ≤ k) ∧ Aside0 (Below w.heap.size w w'))
  case atStart => exact ⟨(0), (0), (by first | rfl | (simp; done) | (simp [*]; done)), (by first | rfl | (simp; done) | (simp [*]; done)), H', ⟨Nat.le_refl _⟩, ⟨by repeat (first | (with_reducible first | exact HB.out | apply below_alloc | apply pw_below_drewN | apply below_drew1) | exact HB.out)⟩⟩
  case round =>
    clear H'
    obtain ⟨x3_1, x4_1, rfl, rfl, HA, HK1, HB⟩ := hrel
    cases gk with
    | zero => exact absurd HA.out (by simp [limbecklaw07_Few.l0])
    | succ k1 =>
      have H := HA.out
      clear HA
      simp only [limbecklaw07_Few.l0] at H
      by_cases c2 : x4_1 < (l0.length : Int)
      · rw [if_pos c2] at H
        have c2b0 : decide (x4_1 < (l0.length : Int)) = true := decide_eq_true c2
        clear c2
        by_cases c3 : x4_1 < 20
        · rw [if_pos c3] at H
          have c3b0 : decide (x4_1 < 20) = true := decide_eq_true c3
          clear c3
          by_cases c4 : 0 ≤ x4_1
          · rw [if_pos c4] at H
            have c4b0 : decide (0 ≤ x4_1) = true := decide_eq_true c4
            clear c4
            replace H := Option.bind_eq_some_iff.mp H
            obtain ⟨t144, A50, H⟩ := H
            replace H : (limbecklaw07_Few.l0 k1 l0 (mx (mx x3_1 t144) (wrap64 ((((rd_T33 l0 x4_1).f0).size : Int) / 8))) (wrap64 (x4_1 + 1))) = some r := H
            have A5 := Aside0.mk A50
            clear A50
            obtain ⟨ji6, hji6⟩ : ∃ j_ : Int, (mx x3_1 t144) = j_ := ⟨_, rfl⟩
            replace H : (limbecklaw07_Few.l0 k1 l0 (mx (ji6) (wrap64 ((((rd_T33 l0 x4_1).f0).size : Int) / 8))) (wrap64 (x4_1 + 1))) = some r := by first | (rw [hji6] at H; exact H) | (simp only [hji6] at H ⊢; exact H)
            (try rw [hji6] at A5)
            have hji6_ : (if x3_1 < t144 then t144 else x3_1) = ji6 := hji6
            obtain ⟨ji7, hji7⟩ : ∃ j_ : Int, (mx (ji6) (wrap64 ((((rd_T33 l0 x4_1).f0).size : Int) / 8))) = j_ := ⟨_, rfl⟩
            replace H : (limbecklaw07_Few.l0 k1 l0 ji7 (wrap64 (x4_1 + 1))) = some r := by first | (rw [hji7] at H; exact H) | (simp only [hji7] at H ⊢; exact H)
            (try rw [hji7] at A5)
            have hji7_ : (if (ji6) < (wrap64 ((((rd_T33 l0 x4_1).f0).size : Int) / 8)) then (wrap64 ((((rd_T33 l0 x4_1).f0).size : Int) / 8)) else (ji6)) = ji7 := hji7
            have H' := Aside0.mk H
            clear H
            try go_wp2
            have n0_ := Aside0.mk (below_drew1 HB.out)
            clear HB
            have HB := n0_
            clear n0_
            have p143 : 0 ≤ (x4_1 : Int) := of_decide_eq_true (by first | (with_reducible assumption) | assumption)
            have q143 : x4_1 < (l0.length : Int) := of_decide_eq_true (by first | (with_reducible assumption) | assumption)
            obtain ⟨ad143, A143_4, c143_4, A143_5, c143_5, e143, hx143_0, hx143_1, hx143_2, hx143_3, hx143_4, hx143_5, hl143_4, hi143_4, hl143_5, hi143_5⟩ := at_T33 HR0.out x4_1 p143 q143
            have hw143_5 := hx143_5
            have hw143_4 := hx143_4
            have hw143_3 := hx143_3
            have hw143_2 := hx143_2
            have hw143_1 := hx143_1
            have hw143_0 := hx143_0
            cases e143
            replace hx143_0 := (HB.out.cell (World.block_lt_of_cell? w _ hx143_0)).trans hx143_0
            replace hx143_1 := (HB.out.cell (World.block_lt_of_cell? w _ hx143_1)).trans hx143_1
            replace hx143_2 := (HB.out.cell (World.block_lt_of_cell? w _ hx143_2)).trans hx143_2
            replace hx143_3 := (HB.out.cell (World.block_lt_of_cell? w _ hx143_3)).trans hx143_3
            replace hx143_4 := (HB.out.cell (World.block_lt_of_cell? w _ hx143_4)).trans hx143_4
            replace hx143_5 := (HB.out.cell (World.block_lt_of_cell? w _ hx143_5)).trans hx143_5
            have HR143_4 := Aside0.mk hi143_4
            have HC143_4 := Aside0.mk hl143_4
            clear hi143_4 hl143_4
            have HR143_5 := Aside0.mk hi143_5
            have HC143_5 := Aside0.mk hl143_5
            clear hi143_5 hl143_5
            replace p143 := eq_true p143
            replace q143 := eq_true q143
            have p145 : 0 ≤ (x4_1 : Int) := of_decide_eq_true (by first | (with_reducible assumption) | assumption)
            have q145 : x4_1 < (l0.length : Int) := of_decide_eq_true (by first | (with_reducible assumption) | assumption)
            obtain ⟨ad145, A145_4, c145_4, A145_5, c145_5, e145, hx145_0, hx145_1, hx145_2, hx145_3, hx145_4, hx145_5, hl145_4, hi145_4, hl145_5, hi145_5⟩ := at_T33 HR0.out x4_1 p145 q145
            have hw145_5 := hx145_5
            have hw145_4 := hx145_4
            have hw145_3 := hx145_3
            have hw145_2 := hx145_2
            have hw145_1 := hx145_1
            have hw145_0 := hx145_0
            obtain rfl : ad143 = ad145 := (by injection e145)
            replace hx145_0 := (HB.out.cell (World.block_lt_of_cell? w _ hx145_0)).trans hx145_0
            replace hx145_1 := (HB.out.cell (World.block_lt_of_cell? w _ hx145_1)).trans hx145_1
            replace hx145_2 := (HB.out.cell (World.block_lt_of_cell? w _ hx145_2)).trans hx145_2
            replace hx145_3 := (HB.out.cell (World.block_lt_of_cell? w _ hx145_3)).trans hx145_3
            replace hx145_4 := (HB.out.cell (World.block_lt_of_cell? w _ hx145_4)).trans hx145_4
            replace hx145_5 := (HB.out.cell (World.block_lt_of_cell? w _ hx145_5)).trans hx145_5
            have HR145_4 := Aside0.mk hi145_4
            have HC145_4 := Aside0.mk hl145_4
            clear hi145_4 hl145_4
            have HR145_5 := Aside0.mk hi145_5
            have HC145_5 := Aside0.mk hl145_5
            clear hi145_5 hl145_5
            replace p145 := eq_true p145
            replace q145 := eq_true q145
            have ea_ := Option.some.inj (hx143_4.symm.trans hx145_4)
            injection ea_ with ea_ en_ ec_
            subst ea_
            subst ec_
            clear en_
            have ea_ := Option.some.inj (hx143_5.symm.trans hx145_5)
            injection ea_ with ea_ en_ ec_
            subst ea_
            subst ec_
            clear en_
            refine start_ (n := 16) (S := fun w' => w'.cell? (ad143.add ((x4_1).toNat * 6)) = some (.string ((rd_T33 l0 x4_1).f0)) ∧ w'.cell? ⟨(ad143.add ((x4_1).toNat * 6)).block, (ad143.add ((x4_1).toNat * 6)).off + 1, none⟩ = some (.int .i64 ((rd_T33 l0 x4_1).f1.f0)) ∧ w'.cell? ⟨(ad143.add ((x4_1).toNat * 6)).block, (ad143.add ((x4_1).toNat * 6)).off + 2, none⟩ = some (.int .i64 ((rd_T33 l0 x4_1).f1.f1)) ∧ w'.cell? ⟨(ad143.add ((x4_1).toNat * 6)).block, (ad143.add ((x4_1).toNat * 6)).off + 3, none⟩ = some (.string ((rd_T33 l0 x4_1).f1.f2)) ∧ w'.cell? ⟨(ad143.add ((x4_1).toNat * 6)).block, (ad143.add ((x4_1).toNat * 6)).off + 4, none⟩ = some (.slice A143_4 ((rd_T33 l0 x4_1).f1.f3).length c143_4) ∧ w'.cell? ⟨(ad143.add ((x4_1).toNat * 6)).block, (ad143.add ((x4_1).toNat * 6)).off + 5, none⟩ = some (.slice A143_5 ((rd_T33 l0 x4_1).f1.f4).length c143_5) ∧ w'.cell? (ad143.add ((x4_1).toNat * 6)) = some (.string ((rd_T33 l0 x4_1).f0)) ∧ w'.cell? ⟨(ad143.add ((x4_1).toNat * 6)).block, (ad143.add ((x4_1).toNat * 6)).off + 1, none⟩ = some (.int .i64 ((rd_T33 l0 x4_1).f1.f0)) ∧ w'.cell? ⟨(ad143.add ((x4_1).toNat * 6)).block, (ad143.add ((x4_1).toNat * 6)).off + 2, none⟩ = some (.int .i64 ((rd_T33 l0 x4_1).f1.f1)) ∧ w'.cell? ⟨(ad143.add ((x4_1).toNat * 6)).block, (ad143.add ((x4_1).toNat * 6)).off + 3, none⟩ = some (.string ((rd_T33 l0 x4_1).f1.f2)) ∧ w'.cell? ⟨(ad143.add ((x4_1).toNat * 6)).block, (ad143.add ((x4_1).toNat * 6)).off + 4, none⟩ = some (.slice A143_4 ((rd_T33 l0 x4_1).f1.f3).length c143_4) ∧ w'.cell? ⟨(ad143.add ((x4_1).toNat * 6)).block, (ad143.add ((x4_1).toNat * 6)).off + 5, none⟩ = some (.slice A143_5 ((rd_T33 l0 x4_1).f1.f4).length c143_5)) (ds := []) #[false, false, false, false, false, false, false, false, false, false, false, false, false, false, false, false] (by kernel_rfl) rfl rfl ⟨((HB.out.cell (World.block_lt_of_cell? w _ hw143_0)).trans hw143_0), ((HB.out.cell (World.block_lt_of_cell? w _ hw143_1)).trans hw143_1), ((HB.out.cell (World.block_lt_of_cell? w _ hw143_2)).trans hw143_2), ((HB.out.cell (World.block_lt_of_cell? w _ hw143_3)).trans hw143_3), ((HB.out.cell (World.block_lt_of_cell? w _ hw143_4)).trans hw143_4), ((HB.out.cell (World.block_lt_of_cell? w _ hw143_5)).trans hw143_5), ((HB.out.cell (World.block_lt_of_cell? w _ hw145_0)).trans hw145_0), ((HB.out.cell (World.block_lt_of_cell? w _ hw145_1)).trans hw145_1), ((HB.out.cell (World.block_lt_of_cell? w _ hw145_2)).trans hw145_2), ((HB.out.cell (World.block_lt_of_cell? w _ hw145_3)).trans hw145_3), ((HB.out.cell (World.block_lt_of_cell? w _ hw145_4)).trans hw145_4), ((HB.out.cell (World.block_lt_of_cell? w _ hw145_5)).trans hw145_5)⟩ (fun hHeld => ?_); refine with_tabW limbecklaw07_Few.tab5 limbecklaw07_Few.bits5 (fun HT_ HW_ => ?_)
            generalize wr.drew = w8 at HB HR143_4 HR143_5 HR145_4 HR145_5 hx143_0 hx143_1 hx143_2 hx143_3 hx143_4 hx143_5 hx145_0 hx145_1 hx145_2 hx145_3 hx145_4 hx145_5 hHeld ⊢
            refine pure_ (i := 0) (N := some 15) (v := ?_) (a' := ?_) #[true, false, false, false, false, false, false, false, false, false, false, false, false, false, false, false] rfl rfl (any_of HT_.out (by kernel_rfl)) (fun _ _ _ h => h) (Or.inl ⟨by rfl, ?_⟩) ?_ ?_
            rotate_left
            · intro w'
              go_simp
              with_reducible rfl
            rotate_left
            · simp only [Act.put, List.setIfInBounds_toArray, List.set_cons_zero, List.set_cons_succ, i64_w, i32_w]
              rfl
            refine pure_ (i := 1) (N := some 16) (v := ?_) (a' := ?_) #[true, true, false, false, false, false, false, false, false, false, false, false, false, false, false, false] rfl rfl (any_of HT_.out (by kernel_rfl)) (fun _ _ _ h => h) (Or.inl ⟨by rfl, ?_⟩) ?_ ?_
            rotate_left
            · intro w'
              go_simp
              with_reducible rfl
            rotate_left
            · simp only [Act.put, List.setIfInBounds_toArray, List.set_cons_zero, List.set_cons_succ, i64_w, i32_w]
              rfl
            refine pure_ (i := 2) (N := some 17) (v := ?_) (a' := ?_) #[true, true, true, false, false, false, false, false, false, false, false, false, false, false, false, false] rfl rfl (any_of HT_.out (by kernel_rfl)) (fun _ _ _ h => h) (Or.inl ⟨by rfl, ?_⟩) ?_ ?_
            rotate_left
            · intro w'
              go_simp
              with_reducible rfl
            rotate_left
            · simp only [Act.put, List.setIfInBounds_toArray, List.set_cons_zero, List.set_cons_succ, i64_w, i32_w]
              rfl
            refine pure_ (i := 3) (N := some 18) (v := ?_) (a' := ?_) #[true, true, true, true, false, false, false, false, false, false, false, false, false, false, false, false] rfl rfl (any_of HT_.out (by kernel_rfl)) (fun _ _ _ h => h) (Or.inl ⟨by rfl, ?_⟩) ?_ ?_
            rotate_left
            · intro w'
              go_simp
              with_reducible rfl
            rotate_left
            · simp only [Act.put, List.setIfInBounds_toArray, List.set_cons_zero, List.set_cons_succ, i64_w, i32_w]
              rfl
            refine pure_ (i := 4) (N := some 19) (v := ?_) (a' := ?_) #[true, true, true, true, true, false, false, false, false, false, false, false, false, false, false, false] rfl rfl (any_of HT_.out (by kernel_rfl)) (fun _ _ _ h => h) (Or.inl ⟨by rfl, ?_⟩) ?_ ?_
            rotate_left
            · intro w'
              go_simp
              with_reducible rfl
            rotate_left
            · simp only [Act.put, List.setIfInBounds_toArray, List.set_cons_zero, List.set_cons_succ, i64_w, i32_w]
              rfl
            refine pure_ (i := 7) (N := some 22) (v := ?_) (a' := ?_) #[true, true, true, true, true, false, false, true, false, false, false, false, false, false, false, false] rfl rfl (any_of HT_.out (by kernel_rfl)) (fun _ _ _ h => h) (Or.inl ⟨by rfl, ?_⟩) ?_ ?_
            rotate_left
            · intro w'
              go_simp
              with_reducible rfl
            rotate_left
            · simp only [Act.put, List.setIfInBounds_toArray, List.set_cons_zero, List.set_cons_succ, i64_w, i32_w]
              rfl
            refine pure_ (i := 8) (N := some 23) (v := ?_) (a' := ?_) #[true, true, true, true, true, false, false, true, true, false, false, false, false, false, false, false] rfl rfl (any_of HT_.out (by kernel_rfl)) (fun _ _ _ h => h) (Or.inl ⟨by rfl, ?_⟩) ?_ ?_
            rotate_left
            · intro w'
              go_simp
              with_reducible rfl
            rotate_left
            · simp only [Act.put, List.setIfInBounds_toArray, List.set_cons_zero, List.set_cons_succ, i64_w, i32_w]
              rfl
            refine pure_ (i := 9) (N := some 24) (v := ?_) (a' := ?_) #[true, true, true, true, true, false, false, true, true, true, false, false, false, false, false, false] rfl rfl (any_of HT_.out (by kernel_rfl)) (fun _ _ _ h => h) (Or.inl ⟨by rfl, ?_⟩) ?_ ?_
            rotate_left
            · intro w'
              go_simp
              with_reducible rfl
            rotate_left
            · simp only [Act.put, List.setIfInBounds_toArray, List.set_cons_zero, List.set_cons_succ, i64_w, i32_w]
              rfl
            refine pure_ (i := 10) (N := some 25) (v := ?_) (a' := ?_) #[true, true, true, true, true, false, false, true, true, true, true, false, false, false, false, false] rfl rfl (any_of HT_.out (by kernel_rfl)) (fun _ _ _ h => h) (Or.inl ⟨by rfl, ?_⟩) ?_ ?_
            rotate_left
            · intro w'
              go_simp
              with_reducible rfl
            rotate_left
            · simp only [Act.put, List.setIfInBounds_toArray, List.set_cons_zero, List.set_cons_succ, i64_w, i32_w]
              rfl
            refine take_ (i := 5) (N := some 20) (v := ?_) (a' := ?_) #[true, true, true, true, true, true, false, true, true, true, true, false, false, false, false, false] rfl rfl (take_ofW HT_.out HW_.out (by kernel_rfl)) (fun _ _ _ h => h) (Or.inl ⟨by rfl, ?_⟩) hHeld ?_ ?_
            rotate_left
            · rintro w' ⟨s0, s1, s2, s3, s4, s5, s6, s7, s8, s9, s10, s11⟩
              go_simp
              with_reducible rfl
            rotate_left
            · simp only [Act.put, List.setIfInBounds_toArray, List.set_cons_zero, List.set_cons_succ, i64_w, i32_w]
              rfl
            refine take_ (i := 11) (N := some 26) (v := ?_) (a' := ?_) #[true, true, true, true, true, true, false, true, true, true, true, true, false, false, false, false] rfl rfl (take_ofW HT_.out HW_.out (by kernel_rfl)) (fun _ _ _ h => h) (Or.inl ⟨by rfl, ?_⟩) hHeld ?_ ?_
            rotate_left
            · rintro w' ⟨s0, s1, s2, s3, s4, s5, s6, s7, s8, s9, s10, s11⟩
              go_simp
              with_reducible rfl
            rotate_left
            · simp only [Act.put, List.setIfInBounds_toArray, List.set_cons_zero, List.set_cons_succ, i64_w, i32_w]
              rfl
            refine pure_ (i := 12) (N := some 27) (v := ?_) (a' := ?_) #[true, true, true, true, true, true, false, true, true, true, true, true, true, false, false, false] rfl rfl (any_of HT_.out (by kernel_rfl)) (fun _ _ _ h => h) (Or.inl ⟨by rfl, ?_⟩) ?_ ?_
            rotate_left
            · intro w'
              go_simp
              with_reducible rfl
            rotate_left
            · simp only [Act.put, List.setIfInBounds_toArray, List.set_cons_zero, List.set_cons_succ, i64_w, i32_w]
              rfl
            refine pure_ (i := 13) (N := some 28) (v := ?_) (a' := ?_) #[true, true, true, true, true, true, false, true, true, true, true, true, true, true, false, false] rfl rfl (any_of HT_.out (by kernel_rfl)) (fun _ _ _ h => h) (Or.inl ⟨by rfl, ?_⟩) ?_ ?_
            rotate_left
            · intro w'
              go_simp
              with_reducible rfl
            rotate_left
            · simp only [Act.put, List.setIfInBounds_toArray, List.set_cons_zero, List.set_cons_succ, i64_w, i32_w]
              rfl
            refine one_ (i := 6) (N := some 21) #[true, true, true, true, true, true, true, true, true, true, true, true, true, true, false, false] rfl rfl (one_of HT_.out (by kernel_rfl)) (by decide) (fun K hK => ?_)
            refine goes_ Try.func20 (by kernel_rfl) rfl #[.agg #[.int .i64 ((rd_T33 l0 x4_1).f1.f0), .int .i64 ((rd_T33 l0 x4_1).f1.f1), .string ((rd_T33 l0 x4_1).f1.f2), .slice A143_4 ((rd_T33 l0 x4_1).f1.f3).length c143_4, .slice A143_5 ((rd_T33 l0 x4_1).f1.f4).length c143_5]] (by rfl) rfl rfl (by (try simp only [List.map_toArray, List.map_cons, List.map_nil]); first | done | rfl | (simp only [List.length_drop, List.length_take]; rfl)) ?_
            with_reducible refine (limbecklaw04_Much.calls k1 ((rd_T33 l0 x4_1).f1.f0) ((rd_T33 l0 x4_1).f1.f1) ((rd_T33 l0 x4_1).f1.f2) _ _ ((rd_T33 l0 x4_1).f1.f3) _ _ ((rd_T33 l0 x4_1).f1.f4) t144 _ ?side1 ?side2 ?side3 ?side4 A5.out).mono ?_
            (case side1 => repeat (first | exact (Kd.C_below HR143_4.out HB.out) | (with_reducible refine Kd.C_alloc ?_ _) | (with_reducible refine Kd.C_drewN ?_ _) | (with_reducible refine Kd.C_drew ?_)))
            (case side2 => exact HC143_4.out)
            (case side3 => repeat (first | exact (Kd.C_below HR143_5.out HB.out) | (with_reducible refine Kd.C_alloc ?_ _) | (with_reducible refine Kd.C_drewN ?_ _) | (with_reducible refine Kd.C_drew ?_)))
            (case side4 => exact HC143_5.out)
            rintro e w9 ⟨rfl, hb⟩
            refine ⟨_, rfl, ?_⟩
            have n0_ := Aside0.mk (below_step (by repeat (first | (with_reducible first | exact HB.out | apply below_alloc | apply pw_below_drewN | apply below_drew1) | exact HB.out)) hb)
            clear HB
            have HB := n0_
            clear n0_
            (try clear hb)
            (try clear hb2)
            (try clear hk)
            (try clear hi)
            refine hK.out _ _ ⟨((HB.out.cell (World.block_lt_of_cell? w _ hw143_0)).trans hw143_0), ((HB.out.cell (World.block_lt_of_cell? w _ hw143_1)).trans hw143_1), ((HB.out.cell (World.block_lt_of_cell? w _ hw143_2)).trans hw143_2), ((HB.out.cell (World.block_lt_of_cell? w _ hw143_3)).trans hw143_3), ((HB.out.cell (World.block_lt_of_cell? w _ hw143_4)).trans hw143_4), ((HB.out.cell (World.block_lt_of_cell? w _ hw143_5)).trans hw143_5), ((HB.out.cell (World.block_lt_of_cell? w _ hw145_0)).trans hw145_0), ((HB.out.cell (World.block_lt_of_cell? w _ hw145_1)).trans hw145_1), ((HB.out.cell (World.block_lt_of_cell? w _ hw145_2)).trans hw145_2), ((HB.out.cell (World.block_lt_of_cell? w _ hw145_3)).trans hw145_3), ((HB.out.cell (World.block_lt_of_cell? w _ hw145_4)).trans hw145_4), ((HB.out.cell (World.block_lt_of_cell? w _ hw145_5)).trans hw145_5)⟩ (fun hHeld => ?_)
            clear hK K
            refine norm_ (a' := ?_) ?_ ?_
            rotate_left
            · show Act.put _ (some 21) _ = _
              simp only [Act.put, List.setIfInBounds_toArray, List.set_cons_zero, List.set_cons_succ, i64_w, i32_w]
              rfl
            refine pure_ (i := 14) (N := some 29) (v := ?_) (a' := ?_) #[true, true, true, true, true, true, true, true, true, true, true, true, true, true, true, false] rfl rfl (any_of HT_.out (by kernel_rfl)) (fun _ _ _ h => h) (Or.inl ⟨by rfl, ?_⟩) ?_ ?_
            rotate_left
            · intro w'
              go_simp
              with_reducible rfl
            rotate_left
            · simp only [Act.put, List.setIfInBounds_toArray, List.set_cons_zero, List.set_cons_succ, i64_w, i32_w]
              rfl
            refine pure_ (i := 15) (N := some 3) (v := ?_) (a' := ?_) #[true, true, true, true, true, true, true, true, true, true, true, true, true, true, true, true] rfl rfl (any_of HT_.out (by kernel_rfl)) (fun _ _ _ h => h) (Or.inl ⟨by rfl, ?_⟩) ?_ ?_
            rotate_left
            · intro w'
              go_simp
              with_reducible rfl
            rotate_left
            · simp only [Act.put, List.setIfInBounds_toArray, List.set_cons_zero, List.set_cons_succ, i64_w, i32_w]
              rfl
            refine done_ (done_of HT_.out (by kernel_rfl)) ?_
            try go_wp2
            go_roundg k1
            case measure => have := HK1.out; omega
            case rel => exact ⟨(ji7), (wrap64 (x4_1 + 1)), (by first | rfl | (simp; done) | (simp only [← hji7] <;> (first | rfl | simp)) | (simp [*]; done)), (by first | rfl | (simp; done) | (simp [*]; done)), H', ⟨by have := HK1.out; omega⟩, ⟨by repeat (first | (with_reducible first | exact HB.out | apply below_alloc | apply pw_below_drewN | apply below_drew1) | exact HB.out)⟩⟩
          · rw [if_neg c4] at H
            exact absurd H (by simp)
        · rw [if_neg c3] at H
          have c3b0 : decide (x4_1 < 20) = false := decide_eq_false c3
          clear c3
          by_cases c10 : (l0.length : Int) > 20
          · rw [if_pos c10] at H
            have c10b0 : decide (20 < (l0.length : Int)) = true := decide_eq_true c10
            have c10b1 : decide (20 < l0.length) = true := decide_eq_true (by omega)
            clear c10
            obtain rfl := Option.some.inj H
            go_wp2
            go_ret
            exact ⟨by first | rfl | (simp [errW_none, errW_some] <;> rfl) | (simp [*, errW_none, errW_some] <;> rfl), by repeat (first | (with_reducible first | exact HB.out | apply below_alloc | apply pw_below_drewN | apply below_drew1) | exact HB.out)⟩
          · rw [if_neg c10] at H
            have c10b0 : decide (20 < (l0.length : Int)) = false := decide_eq_false c10
            have c10b1 : decide (20 < l0.length) = false := decide_eq_false (by omega)
            clear c10
            obtain rfl := Option.some.inj H
            go_wp2
            go_ret
            exact ⟨by first | rfl | (simp [errW_none, errW_some] <;> rfl) | (simp [*, errW_none, errW_some] <;> rfl), by repeat (first | (with_reducible first | exact HB.out | apply below_alloc | apply pw_below_drewN | apply below_drew1) | exact HB.out)⟩
      · rw [if_neg c2] at H
        have c2b0 : decide (x4_1 < (l0.length : Int)) = false := decide_eq_false c2
        clear c2
        by_cases c11 : (l0.length : Int) > 20
        · rw [if_pos c11] at H
          have c11b0 : decide (20 < (l0.length : Int)) = true := decide_eq_true c11
          have c11b1 : decide (20 < l0.length) = true := decide_eq_true (by omega)
          clear c11
          obtain rfl := Option.some.inj H
          go_wp2
          go_ret
          exact ⟨by first | rfl | (simp [errW_none, errW_some] <;> rfl) | (simp [*, errW_none, errW_some] <;> rfl), by repeat (first | (with_reducible first | exact HB.out | apply below_alloc | apply pw_below_drewN | apply below_drew1) | exact HB.out)⟩
        · rw [if_neg c11] at H
          have c11b0 : decide (20 < (l0.length : Int)) = false := decide_eq_false c11
          have c11b1 : decide (20 < l0.length) = false := decide_eq_false (by omega)
          clear c11
          obtain rfl := Option.some.inj H
          go_wp2
          go_ret
          exact ⟨by first | rfl | (simp [errW_none, errW_some] <;> rfl) | (simp [*, errW_none, errW_some] <;> rfl), by repeat (first | (with_reducible first | exact HB.out | apply below_alloc | apply pw_below_drewN | apply below_drew1) | exact HB.out)⟩

/-! ### limbeckref34_Find: function 32 -/
def limbeckref34_Find.l0 : Nat → List (S54) → ByteArray → Int → Option (Int × Int × Int × Bool × ByteArray × ByteArray × Int × (List (S31)) × List ByteArray × (List (S52)) × Bool)
  | 0, _, _, _ => none
  | k + 1, x0, x1, x6 => if x6 ≥ 0 then (if 0 ≤ x6 then (if x6 < (x0.length : Int) then (if ((rd_T54 x0 x6).f0).toList = x1.toList then (some ((rd_T54 x0 x6).f1.f0, (rd_T54 x0 x6).f1.f1, (rd_T54 x0 x6).f1.f2, (rd_T54 x0 x6).f1.f3, (rd_T54 x0 x6).f1.f4, (rd_T54 x0 x6).f1.f5.f0, (rd_T54 x0 x6).f1.f5.f1, (rd_T54 x0 x6).f1.f6, (rd_T54 x0 x6).f1.f7, (rd_T54 x0 x6).f1.f8, true)) else (limbeckref34_Find.l0 k x0 x1 (wrap64 (x6 - 1)))) else (none)) else (none)) else (some (0, 0, 0, false, (⟨#[]⟩ : ByteArray), (⟨#[]⟩ : ByteArray), 0, ([] : List (S31)), ([] : List ByteArray), ([] : List (S52)), false))
def limbeckref34_Find.f (k : Nat) (l0 : List (S54)) (a1 : ByteArray) : Option (Int × Int × Int × Bool × ByteArray × ByteArray × Int × (List (S31)) × List ByteArray × (List (S52)) × Bool) := limbeckref34_Find.l0 k l0 a1 (wrap64 ((l0.length : Int) - 1))
theorem limbeckref34_Find.mono_l : ∀ k, (∀ y0 y1 y2, LeO (limbeckref34_Find.l0 k y0 y1 y2) (limbeckref34_Find.l0 (k + 1) y0 y1 y2))
  | 0 => fun _ _ _ r h => by simp [limbeckref34_Find.l0] at h
  | k + 1 => by
    have ih0 := limbeckref34_Find.mono_l k
    · intro y0 y1 y2
      unfold limbeckref34_Find.l0
      repeat' first
      | (with_reducible exact ih0 _ _ _)
      | (with_reducible exact LeO.refl _)
      | (with_reducible exact LeO.none _)
      | (with_reducible refine LeO.ite ?_ ?_)
      | (with_reducible refine LeO.bind ?_ (fun _ => ?_))
      | exact ih0 _ _ _
      | exact LeO.none _
      | refine LeO.ite ?_ ?_
      | refine LeO.bind ?_ (fun _ => ?_)
theorem limbeckref34_Find.mono : ∀ a0 a1 k, LeO (limbeckref34_Find.f k a0 a1) (limbeckref34_Find.f (k + 1) a0 a1) := by
  intro a0 a1 k
  have ih0 := limbeckref34_Find.mono_l k
  unfold limbeckref34_Find.f
  repeat' first
      | (with_reducible exact ih0 _ _ _)
      | (with_reducible exact LeO.refl _)
      | (with_reducible exact LeO.none _)
      | (with_reducible refine LeO.ite ?_ ?_)
      | (with_reducible refine LeO.bind ?_ (fun _ => ?_))
      | exact ih0 _ _ _
      | exact LeO.none _
      | refine LeO.ite ?_ ?_
      | refine LeO.bind ?_ (fun _ => ?_)
set_option maxHeartbeats 8000000 in
set_option maxRecDepth 100000 in
theorem limbeckref34_Find.calls (k : Nat) (P0_ : Nat → Prop) (A0 : Option Addr) (c0 : Nat) (l0 : List (S54)) (a1 : ByteArray) (r1 : Int) (r2 : Int) (r3 : Int) (r4 : Bool) (r5 : ByteArray) (r6 : ByteArray) (r7 : Int) (r8 : List (S31)) (r9 : List ByteArray) (r10 : List (S52)) (r11 : Bool) (w : World) (hs0 : Kd.V k54 54 w w.heap.size (fun k_ => P0_ k_) (.slice A0 l0.length c0) l0) (h : limbeckref34_Find.f k l0 a1 = some (r1, r2, r3, r4, r5, r6, r7, r8, r9, r10, r11)) :
    Calls Try.prog 32 #[.slice A0 l0.length c0, .string a1] w fun e w' => ∃ v7_ v8_ v9_ : Value, e = .returned (.tuple #[.agg #[.int .i64 r1, .int .i64 r2, .int .i64 r3, .bool r4, .string r5, .string r6, .int .i64 r7, v7_, v8_, v9_], .bool r11]) ∧ Kd.V k31 31 w' w.heap.size (fun k_ => (P0_ k_ ∨ w.heap.size ≤ k_)) v7_ r8 ∧ Kd.V Kd.string 9 w' w.heap.size (fun k_ => (P0_ k_ ∨ w.heap.size ≤ k_)) v8_ r9 ∧ Kd.V k52 52 w' w.heap.size (fun k_ => (P0_ k_ ∨ w.heap.size ≤ k_)) v9_ r10 ∧ Below w.heap.size w w' := by
  have hu52 := Try.underlying52
  have HO0 := Aside0.mk (show Kd.V k54 54 w w.heap.size (fun k_ => (P0_ k_ ∨ w.heap.size ≤ k_)) (.slice A0 l0.length c0) l0 from Kd.V_mono hs0 (fun k_ hk => .inl hk))
  have HB := Aside0.mk (Below.refl w.heap.size w)
  have H : (limbeckref34_Find.l0 k l0 a1 (wrap64 ((l0.length : Int) - 1))) = some (r1, r2, r3, r4, r5, r6, r7, r8, r9, r10, r11) := h
  clear h
  have H' := Aside0.mk H
  clear H
  go_enter Try.func32, Try.ntmps32
  go_wp2_with (first | ((with_reducible refine gate_dst (N := 4) rfl ?_); refine box_event ?hg (N := 4) ?hd (cs := #[.int .i64 0, .int .i64 0, .int .i64 0, .bool false, .string (⟨#[]⟩ : ByteArray), .string (⟨#[]⟩ : ByteArray), .int .i64 0, .slice none 0 0, .slice none 0 0, .slice none 0 0]) (t := 52) ?hr ?_; (case hd => rfl); (case hg => rfl); (case hr => first | (go_simp; done) | (go_simp; rfl)); intro gb146 hg w3 hbox hb; have n0_ := Aside0.mk (Kd.V_below (Kd.V_elderB (by (with_reducible repeat (first | apply Kd.V_alloc | apply Kd.V_drewN | apply Kd.V_drew)); exact HO0.out) gb146 (Nat.le_of_eq hg.symm)) hb); have n1_ := Aside0.mk (below_step (by repeat (first | (with_reducible first | exact HB.out | apply below_alloc | apply pw_below_drewN | apply below_drew1) | exact HB.out)) hb); have n2_ := Aside0.mk (hbox); have n3_ := Aside0.mk ((by rw [hg]; exact (below_size (by repeat (first | (with_reducible first | exact HB.out | apply below_alloc | apply pw_below_drewN | apply below_drew1) | exact HB.out))) : w.heap.size ≤ gb146)); have n4_ := Aside0.mk ((by rw [hg]; exact (below_size (by repeat (first | (with_reducible first | exact HB.out | apply below_alloc | apply pw_below_drewN | apply below_drew1) | exact HB.out))) : w.heap.size ≤ gb146)); clear HO0; clear HB; have HO0 := n0_; have HB := n1_; have BK146 := n2_; have GW146 := n3_; have GE146 := n4_; clear n0_ n1_ n2_ n3_ n4_; clear hb hbox hg))
  go_loopg [6] k (fun kq v6 w' => ∃ (x6_1 : Int) (x147000_1 : Int) (x147001_1 : Int) (x147002_1 : Int) (x147003_1 : Bool) (x147004_1 : ByteArray) (x147005_1 : ByteArray) (x147006_1 : Int), v6 = .int .i64 x6_1 ∧ Aside0 (limbeckref34_Find.l0 kq l0 a1 x6_1 = some (r1, r2, r3, r4, r5, r6, r7, r8, r9, r10, r11)) ∧ Aside0 (kq ≤ k) ∧ Aside0 (Kd.V k54 54 w' w.heap.size (fun k_ => (P0_ k_ ∨ w.heap.size ≤ k_) ∧ k_ ≠ gb146) (.slice A0 l0.length c0) l0) ∧ Aside0 (w'.heap[gb146]? = some (.cells #[.int .i64 x147000_1, .int .i64 x147001_1, .int .i64 x147002_1, .bool x147003_1, .string x147004_1, .string x147005_1, .int .i64 x147006_1, (.slice none 0 0), (.slice none 0 0), (.slice none 0 0)] 52 (0, 0))) ∧ Aside0 (Below w.heap.size w w'))
  case atStart => exact ⟨(wrap64 ((l0.length : Int) - 1)), (0), (0), (0), (false), ((⟨#[]⟩ : ByteArray)), ((⟨#[]⟩ : ByteArray)), (0), (by first | rfl | (simp; done) | (simp [*]; done)), H', ⟨Nat.le_refl _⟩, ⟨by (with_reducible repeat (first | apply Kd.V_alloc | apply Kd.V_drewN | apply Kd.V_drew)); exact HO0.out⟩, ⟨by (with_reducible repeat (first | refine blk_drewN ?_ _ | refine blk_drew ?_ | refine blk_alloc ?_ _)); exact BK146.out⟩, ⟨by repeat (first | (with_reducible first | exact HB.out | apply below_alloc | apply pw_below_drewN | apply below_drew1 | refine below_set ?_ GE146.out) | exact HB.out)⟩⟩
  case round =>
    clear H'
    try clear p2
    try clear c3
    obtain ⟨x6_1, x147000_1, x147001_1, x147002_1, x147003_1, x147004_1, x147005_1, x147006_1, rfl, HA, HK1, HO_0, BK146, HB⟩ := hrel
    cases gk with
    | zero => exact absurd HA.out (by simp [limbeckref34_Find.l0])
    | succ k1 =>
      have H := HA.out
      clear HA
      simp only [limbeckref34_Find.l0] at H
      by_cases c4 : x6_1 ≥ 0
      · rw [if_pos c4] at H
        have c4b0 : decide (0 ≤ x6_1) = true := decide_eq_true c4
        clear c4
        by_cases c5 : 0 ≤ x6_1
        · rw [if_pos c5] at H
          have c5b0 : decide (0 ≤ x6_1) = true := decide_eq_true c5
          clear c5
          by_cases c6 : x6_1 < (l0.length : Int)
          · rw [if_pos c6] at H
            have c6b0 : decide (x6_1 < (l0.length : Int)) = true := decide_eq_true c6
            clear c6
            by_cases c7 : ((rd_T54 l0 x6_1).f0).toList = a1.toList
            · rw [if_pos c7] at H
              have c7b0 : (((rd_T54 l0 x6_1).f0).toList == a1.toList) = true := beq_iff_eq.mpr c7
              have c7b1 : (((rd_T54 l0 x6_1).f0).toList != a1.toList) = false := bne_eq_false_iff_eq.mpr c7
              clear c7
              simp only [Option.some.injEq, Prod.mk.injEq] at H
              obtain ⟨rfl, rfl, rfl, rfl, rfl, rfl, rfl, rfl, rfl, rfl, rfl⟩ := H
              have p147 : 0 ≤ (x6_1 : Int) := of_decide_eq_true (by first | (with_reducible assumption) | assumption)
              have q147 : x6_1 < (l0.length : Int) := of_decide_eq_true (by first | (with_reducible assumption) | assumption)
              obtain ⟨ad147, A147_8, c147_8, A147_9, c147_9, A147_10, c147_10, e147, hx147_0, hx147_1, hx147_2, hx147_3, hx147_4, hx147_5, hx147_6, hx147_7, hx147_8, hx147_9, hx147_10, hl147_8, hi147_8, hl147_9, hi147_9, hl147_10, hi147_10⟩ := at_T54 (Kd.V_reads' HO_0.out).2.2 x6_1 p147 q147
              cases e147
              obtain ⟨ce147, hce147, hMe147, hcc147⟩ := Kd.V_get HO_0.out z54 x6_1 p147 (by first | exact q147 | exact of_decide_eq_true (by first | (with_reducible assumption) | assumption) | (have e_ := (Kd.V_reads' HO_0.out).1; omega))
              obtain ⟨ua147_8, uc147_8, ua147_9, uc147_9, ua147_10, uc147_10, rfl, ul147_8, ge147_8, ul147_9, ge147_9, ul147_10, ge147_10⟩ := k54_openF hMe147
              have hv147_8 := hcc147 8 _ rfl
              rw [add_field _ _ 8 (by omega)] at hv147_8
              replace hv147_8 := Option.some.inj (hv147_8.symm.trans hx147_8)
              injection hv147_8 with hva_ hvn_ hvc_
              rw [hva_] at ge147_8
              rw [hvc_] at ul147_8
              have HL147_8 := Aside0.mk (show Kd.V k31 31 _ w.heap.size _ _ ((rd_T54 l0 x6_1).f1.f6) from Kd.V_mk ul147_8 ge147_8)
              clear hva_ hvn_ hvc_ ge147_8 ul147_8
              have hv147_9 := hcc147 9 _ rfl
              rw [add_field _ _ 9 (by omega)] at hv147_9
              replace hv147_9 := Option.some.inj (hv147_9.symm.trans hx147_9)
              injection hv147_9 with hva_ hvn_ hvc_
              rw [hva_] at ge147_9
              rw [hvc_] at ul147_9
              have HL147_9 := Aside0.mk (show Kd.V Kd.string 9 _ w.heap.size _ _ ((rd_T54 l0 x6_1).f1.f7) from Kd.V_mk ul147_9 ge147_9)
              clear hva_ hvn_ hvc_ ge147_9 ul147_9
              have hv147_10 := hcc147 10 _ rfl
              rw [add_field _ _ 10 (by omega)] at hv147_10
              replace hv147_10 := Option.some.inj (hv147_10.symm.trans hx147_10)
              injection hv147_10 with hva_ hvn_ hvc_
              rw [hva_] at ge147_10
              rw [hvc_] at ul147_10
              have HL147_10 := Aside0.mk (show Kd.V k52 52 _ w.heap.size _ _ ((rd_T54 l0 x6_1).f1.f8) from Kd.V_mk ul147_10 ge147_10)
              clear hva_ hvn_ hvc_ ge147_10 ul147_10
              clear hcc147 hce147
              have HR147_8 := Aside0.mk hi147_8
              have HC147_8 := Aside0.mk hl147_8
              clear hi147_8 hl147_8
              have HR147_9 := Aside0.mk hi147_9
              have HC147_9 := Aside0.mk hl147_9
              clear hi147_9 hl147_9
              have HR147_10 := Aside0.mk hi147_10
              have HC147_10 := Aside0.mk hl147_10
              clear hi147_10 hl147_10
              replace p147 := eq_true p147
              replace q147 := eq_true q147
              have p148 : 0 ≤ (x6_1 : Int) := of_decide_eq_true (by first | (with_reducible assumption) | assumption)
              have q148 : x6_1 < (l0.length : Int) := of_decide_eq_true (by first | (with_reducible assumption) | assumption)
              obtain ⟨ad148, A148_8, c148_8, A148_9, c148_9, A148_10, c148_10, e148, hx148_0, hx148_1, hx148_2, hx148_3, hx148_4, hx148_5, hx148_6, hx148_7, hx148_8, hx148_9, hx148_10, hl148_8, hi148_8, hl148_9, hi148_9, hl148_10, hi148_10⟩ := at_T54 (Kd.V_reads' HO_0.out).2.2 x6_1 p148 q148
              obtain rfl : ad147 = ad148 := (by injection e148)
              obtain ⟨ce148, hce148, hMe148, hcc148⟩ := Kd.V_get HO_0.out z54 x6_1 p148 (by first | exact q148 | exact of_decide_eq_true (by first | (with_reducible assumption) | assumption) | (have e_ := (Kd.V_reads' HO_0.out).1; omega))
              obtain ⟨ua148_8, uc148_8, ua148_9, uc148_9, ua148_10, uc148_10, rfl, ul148_8, ge148_8, ul148_9, ge148_9, ul148_10, ge148_10⟩ := k54_openF hMe148
              have hv148_8 := hcc148 8 _ rfl
              rw [add_field _ _ 8 (by omega)] at hv148_8
              replace hv148_8 := Option.some.inj (hv148_8.symm.trans hx148_8)
              injection hv148_8 with hva_ hvn_ hvc_
              rw [hva_] at ge148_8
              rw [hvc_] at ul148_8
              have HL148_8 := Aside0.mk (show Kd.V k31 31 _ w.heap.size _ _ ((rd_T54 l0 x6_1).f1.f6) from Kd.V_mk ul148_8 ge148_8)
              clear hva_ hvn_ hvc_ ge148_8 ul148_8
              have hv148_9 := hcc148 9 _ rfl
              rw [add_field _ _ 9 (by omega)] at hv148_9
              replace hv148_9 := Option.some.inj (hv148_9.symm.trans hx148_9)
              injection hv148_9 with hva_ hvn_ hvc_
              rw [hva_] at ge148_9
              rw [hvc_] at ul148_9
              have HL148_9 := Aside0.mk (show Kd.V Kd.string 9 _ w.heap.size _ _ ((rd_T54 l0 x6_1).f1.f7) from Kd.V_mk ul148_9 ge148_9)
              clear hva_ hvn_ hvc_ ge148_9 ul148_9
              have hv148_10 := hcc148 10 _ rfl
              rw [add_field _ _ 10 (by omega)] at hv148_10
              replace hv148_10 := Option.some.inj (hv148_10.symm.trans hx148_10)
              injection hv148_10 with hva_ hvn_ hvc_
              rw [hva_] at ge148_10
              rw [hvc_] at ul148_10
              have HL148_10 := Aside0.mk (show Kd.V k52 52 _ w.heap.size _ _ ((rd_T54 l0 x6_1).f1.f8) from Kd.V_mk ul148_10 ge148_10)
              clear hva_ hvn_ hvc_ ge148_10 ul148_10
              clear hcc148 hce148
              have HR148_8 := Aside0.mk hi148_8
              have HC148_8 := Aside0.mk hl148_8
              clear hi148_8 hl148_8
              have HR148_9 := Aside0.mk hi148_9
              have HC148_9 := Aside0.mk hl148_9
              clear hi148_9 hl148_9
              have HR148_10 := Aside0.mk hi148_10
              have HC148_10 := Aside0.mk hl148_10
              clear hi148_10 hl148_10
              replace p148 := eq_true p148
              replace q148 := eq_true q148
              have ea_ := Option.some.inj (hx147_8.symm.trans hx148_8)
              injection ea_ with ea_ en_ ec_
              subst ea_
              subst ec_
              clear en_
              have ea_ := Option.some.inj (hx147_9.symm.trans hx148_9)
              injection ea_ with ea_ en_ ec_
              subst ea_
              subst ec_
              clear en_
              have ea_ := Option.some.inj (hx147_10.symm.trans hx148_10)
              injection ea_ with ea_ en_ ec_
              subst ea_
              subst ec_
              clear en_
              have hcz8_0 : wr.cell? ⟨gb146, 0, none⟩ = some (.int .i64 x147000_1) := (blk_cell BK146.out 0).trans rfl
              have hcz8_1 : wr.cell? ⟨gb146, 1, none⟩ = some (.int .i64 x147001_1) := (blk_cell BK146.out 1).trans rfl
              have hcz8_2 : wr.cell? ⟨gb146, 2, none⟩ = some (.int .i64 x147002_1) := (blk_cell BK146.out 2).trans rfl
              have hcz8_3 : wr.cell? ⟨gb146, 3, none⟩ = some (.bool x147003_1) := (blk_cell BK146.out 3).trans rfl
              have hcz8_4 : wr.cell? ⟨gb146, 4, none⟩ = some (.string x147004_1) := (blk_cell BK146.out 4).trans rfl
              have hcz8_5 : wr.cell? ⟨gb146, 5, none⟩ = some (.string x147005_1) := (blk_cell BK146.out 5).trans rfl
              have hcz8_6 : wr.cell? ⟨gb146, 6, none⟩ = some (.int .i64 x147006_1) := (blk_cell BK146.out 6).trans rfl
              have hcz8_7 : wr.cell? ⟨gb146, 7, none⟩ = some (.slice none 0 0) := (blk_cell BK146.out 7).trans rfl
              have hcz8_8 : wr.cell? ⟨gb146, 8, none⟩ = some (.slice none 0 0) := (blk_cell BK146.out 8).trans rfl
              have hcz8_9 : wr.cell? ⟨gb146, 9, none⟩ = some (.slice none 0 0) := (blk_cell BK146.out 9).trans rfl
              have hfz8_0 := blk_frozen BK146.out 0
              have hfz8_1 := blk_frozen BK146.out 1
              have hfz8_2 := blk_frozen BK146.out 2
              have hfz8_3 := blk_frozen BK146.out 3
              have hfz8_4 := blk_frozen BK146.out 4
              have hfz8_5 := blk_frozen BK146.out 5
              have hfz8_6 := blk_frozen BK146.out 6
              have hfz8_7 := blk_frozen BK146.out 7
              have hfz8_8 := blk_frozen BK146.out 8
              have hfz8_9 := blk_frozen BK146.out 9
              go_wp2
              refine bodyPost_ret (results_ct rfl _ _ gb146 52 #[.int .i64 ((rd_T54 l0 x6_1).f1.f0), .int .i64 ((rd_T54 l0 x6_1).f1.f1), .int .i64 ((rd_T54 l0 x6_1).f1.f2), .bool ((rd_T54 l0 x6_1).f1.f3), .string ((rd_T54 l0 x6_1).f1.f4), .string ((rd_T54 l0 x6_1).f1.f5.f0), .int .i64 ((rd_T54 l0 x6_1).f1.f5.f1), .slice A147_8 ((rd_T54 l0 x6_1).f1.f6).length c147_8, .slice A147_9 ((rd_T54 l0 x6_1).f1.f7).length c147_9, .slice A147_10 ((rd_T54 l0 x6_1).f1.f8).length c147_10] (0, 0) _ rfl (by (with_reducible repeat (first | refine blk_drewN ?_ _ | refine blk_drew ?_ | refine blk_alloc ?_ _)); refine blk_put (cs := #[.int .i64 ((rd_T54 l0 x6_1).f1.f0), .int .i64 ((rd_T54 l0 x6_1).f1.f1), .int .i64 ((rd_T54 l0 x6_1).f1.f2), .bool ((rd_T54 l0 x6_1).f1.f3), .string ((rd_T54 l0 x6_1).f1.f4), .string ((rd_T54 l0 x6_1).f1.f5.f0), .int .i64 ((rd_T54 l0 x6_1).f1.f5.f1), .slice A147_8 ((rd_T54 l0 x6_1).f1.f6).length c147_8, .slice A147_9 ((rd_T54 l0 x6_1).f1.f7).length c147_9, .slice none 0 0]) ?_ 9 _ rfl; (with_reducible repeat (first | refine blk_drewN ?_ _ | refine blk_drew ?_ | refine blk_alloc ?_ _)); refine blk_put (cs := #[.int .i64 ((rd_T54 l0 x6_1).f1.f0), .int .i64 ((rd_T54 l0 x6_1).f1.f1), .int .i64 ((rd_T54 l0 x6_1).f1.f2), .bool ((rd_T54 l0 x6_1).f1.f3), .string ((rd_T54 l0 x6_1).f1.f4), .string ((rd_T54 l0 x6_1).f1.f5.f0), .int .i64 ((rd_T54 l0 x6_1).f1.f5.f1), .slice A147_8 ((rd_T54 l0 x6_1).f1.f6).length c147_8, .slice none 0 0, .slice none 0 0]) ?_ 8 _ rfl; (with_reducible repeat (first | refine blk_drewN ?_ _ | refine blk_drew ?_ | refine blk_alloc ?_ _)); refine blk_put (cs := #[.int .i64 ((rd_T54 l0 x6_1).f1.f0), .int .i64 ((rd_T54 l0 x6_1).f1.f1), .int .i64 ((rd_T54 l0 x6_1).f1.f2), .bool ((rd_T54 l0 x6_1).f1.f3), .string ((rd_T54 l0 x6_1).f1.f4), .string ((rd_T54 l0 x6_1).f1.f5.f0), .int .i64 ((rd_T54 l0 x6_1).f1.f5.f1), .slice none 0 0, .slice none 0 0, .slice none 0 0]) ?_ 7 _ rfl; (with_reducible repeat (first | refine blk_drewN ?_ _ | refine blk_drew ?_ | refine blk_alloc ?_ _)); refine blk_put (cs := #[.int .i64 ((rd_T54 l0 x6_1).f1.f0), .int .i64 ((rd_T54 l0 x6_1).f1.f1), .int .i64 ((rd_T54 l0 x6_1).f1.f2), .bool ((rd_T54 l0 x6_1).f1.f3), .string ((rd_T54 l0 x6_1).f1.f4), .string ((rd_T54 l0 x6_1).f1.f5.f0), .int .i64 x147006_1, .slice none 0 0, .slice none 0 0, .slice none 0 0]) ?_ 6 _ rfl; (with_reducible repeat (first | refine blk_drewN ?_ _ | refine blk_drew ?_ | refine blk_alloc ?_ _)); refine blk_put (cs := #[.int .i64 ((rd_T54 l0 x6_1).f1.f0), .int .i64 ((rd_T54 l0 x6_1).f1.f1), .int .i64 ((rd_T54 l0 x6_1).f1.f2), .bool ((rd_T54 l0 x6_1).f1.f3), .string ((rd_T54 l0 x6_1).f1.f4), .string x147005_1, .int .i64 x147006_1, .slice none 0 0, .slice none 0 0, .slice none 0 0]) ?_ 5 _ rfl; (with_reducible repeat (first | refine blk_drewN ?_ _ | refine blk_drew ?_ | refine blk_alloc ?_ _)); refine blk_put (cs := #[.int .i64 ((rd_T54 l0 x6_1).f1.f0), .int .i64 ((rd_T54 l0 x6_1).f1.f1), .int .i64 ((rd_T54 l0 x6_1).f1.f2), .bool ((rd_T54 l0 x6_1).f1.f3), .string x147004_1, .string x147005_1, .int .i64 x147006_1, .slice none 0 0, .slice none 0 0, .slice none 0 0]) ?_ 4 _ rfl; (with_reducible repeat (first | refine blk_drewN ?_ _ | refine blk_drew ?_ | refine blk_alloc ?_ _)); refine blk_put (cs := #[.int .i64 ((rd_T54 l0 x6_1).f1.f0), .int .i64 ((rd_T54 l0 x6_1).f1.f1), .int .i64 ((rd_T54 l0 x6_1).f1.f2), .bool x147003_1, .string x147004_1, .string x147005_1, .int .i64 x147006_1, .slice none 0 0, .slice none 0 0, .slice none 0 0]) ?_ 3 _ rfl; (with_reducible repeat (first | refine blk_drewN ?_ _ | refine blk_drew ?_ | refine blk_alloc ?_ _)); refine blk_put (cs := #[.int .i64 ((rd_T54 l0 x6_1).f1.f0), .int .i64 ((rd_T54 l0 x6_1).f1.f1), .int .i64 x147002_1, .bool x147003_1, .string x147004_1, .string x147005_1, .int .i64 x147006_1, .slice none 0 0, .slice none 0 0, .slice none 0 0]) ?_ 2 _ rfl; (with_reducible repeat (first | refine blk_drewN ?_ _ | refine blk_drew ?_ | refine blk_alloc ?_ _)); refine blk_put (cs := #[.int .i64 ((rd_T54 l0 x6_1).f1.f0), .int .i64 x147001_1, .int .i64 x147002_1, .bool x147003_1, .string x147004_1, .string x147005_1, .int .i64 x147006_1, .slice none 0 0, .slice none 0 0, .slice none 0 0]) ?_ 1 _ rfl; (with_reducible repeat (first | refine blk_drewN ?_ _ | refine blk_drew ?_ | refine blk_alloc ?_ _)); refine blk_put (cs := #[.int .i64 x147000_1, .int .i64 x147001_1, .int .i64 x147002_1, .bool x147003_1, .string x147004_1, .string x147005_1, .int .i64 x147006_1, .slice none 0 0, .slice none 0 0, .slice none 0 0]) ?_ 0 _ rfl; (with_reducible repeat (first | refine blk_drewN ?_ _ | refine blk_drew ?_ | refine blk_alloc ?_ _)); exact BK146.out) Try.underlying52 rfl (by kernel_rfl)) rfl ?_
              exact ⟨_, _, _, by first | rfl | (simp [errW_none, errW_some] <;> rfl) | (simp [*, errW_none, errW_some] <;> rfl), by (with_reducible repeat (first | apply Kd.V_alloc | apply Kd.V_drewN | apply Kd.V_drew)); exact Kd.V_mono (Kd.V_far (p := ⟨gb146, 9, none⟩) (Kd.V_far (p := ⟨gb146, 8, none⟩) (Kd.V_far (p := ⟨gb146, 7, none⟩) (Kd.V_far (p := ⟨gb146, 6, none⟩) (Kd.V_far (p := ⟨gb146, 5, none⟩) (Kd.V_far (p := ⟨gb146, 4, none⟩) (Kd.V_far (p := ⟨gb146, 3, none⟩) (Kd.V_far (p := ⟨gb146, 2, none⟩) (Kd.V_far (p := ⟨gb146, 1, none⟩) (Kd.V_far (p := ⟨gb146, 0, none⟩) (Kd.V_mono HL148_8.out (fun k_ hk => (⟨hk, hk.2⟩ : _ ∧ k_ ≠ gb146))) (fun _ hk => hk.2) (.int .i64 ((rd_T54 l0 x6_1).f1.f0))) (fun _ hk => hk.2) (.int .i64 ((rd_T54 l0 x6_1).f1.f1))) (fun _ hk => hk.2) (.int .i64 ((rd_T54 l0 x6_1).f1.f2))) (fun _ hk => hk.2) (.bool ((rd_T54 l0 x6_1).f1.f3))) (fun _ hk => hk.2) (.string ((rd_T54 l0 x6_1).f1.f4))) (fun _ hk => hk.2) (.string ((rd_T54 l0 x6_1).f1.f5.f0))) (fun _ hk => hk.2) (.int .i64 ((rd_T54 l0 x6_1).f1.f5.f1))) (fun _ hk => hk.2) (.slice A147_8 ((rd_T54 l0 x6_1).f1.f6).length c147_8)) (fun _ hk => hk.2) (.slice A147_9 ((rd_T54 l0 x6_1).f1.f7).length c147_9)) (fun _ hk => hk.2) (.slice A147_10 ((rd_T54 l0 x6_1).f1.f8).length c147_10)) (fun _ hk => hk.1.1), by (with_reducible repeat (first | apply Kd.V_alloc | apply Kd.V_drewN | apply Kd.V_drew)); exact Kd.V_mono (Kd.V_far (p := ⟨gb146, 9, none⟩) (Kd.V_far (p := ⟨gb146, 8, none⟩) (Kd.V_far (p := ⟨gb146, 7, none⟩) (Kd.V_far (p := ⟨gb146, 6, none⟩) (Kd.V_far (p := ⟨gb146, 5, none⟩) (Kd.V_far (p := ⟨gb146, 4, none⟩) (Kd.V_far (p := ⟨gb146, 3, none⟩) (Kd.V_far (p := ⟨gb146, 2, none⟩) (Kd.V_far (p := ⟨gb146, 1, none⟩) (Kd.V_far (p := ⟨gb146, 0, none⟩) (Kd.V_mono HL148_9.out (fun k_ hk => (⟨hk, hk.2⟩ : _ ∧ k_ ≠ gb146))) (fun _ hk => hk.2) (.int .i64 ((rd_T54 l0 x6_1).f1.f0))) (fun _ hk => hk.2) (.int .i64 ((rd_T54 l0 x6_1).f1.f1))) (fun _ hk => hk.2) (.int .i64 ((rd_T54 l0 x6_1).f1.f2))) (fun _ hk => hk.2) (.bool ((rd_T54 l0 x6_1).f1.f3))) (fun _ hk => hk.2) (.string ((rd_T54 l0 x6_1).f1.f4))) (fun _ hk => hk.2) (.string ((rd_T54 l0 x6_1).f1.f5.f0))) (fun _ hk => hk.2) (.int .i64 ((rd_T54 l0 x6_1).f1.f5.f1))) (fun _ hk => hk.2) (.slice A147_8 ((rd_T54 l0 x6_1).f1.f6).length c147_8)) (fun _ hk => hk.2) (.slice A147_9 ((rd_T54 l0 x6_1).f1.f7).length c147_9)) (fun _ hk => hk.2) (.slice A147_10 ((rd_T54 l0 x6_1).f1.f8).length c147_10)) (fun _ hk => hk.1.1), by (with_reducible repeat (first | apply Kd.V_alloc | apply Kd.V_drewN | apply Kd.V_drew)); exact Kd.V_mono (Kd.V_far (p := ⟨gb146, 9, none⟩) (Kd.V_far (p := ⟨gb146, 8, none⟩) (Kd.V_far (p := ⟨gb146, 7, none⟩) (Kd.V_far (p := ⟨gb146, 6, none⟩) (Kd.V_far (p := ⟨gb146, 5, none⟩) (Kd.V_far (p := ⟨gb146, 4, none⟩) (Kd.V_far (p := ⟨gb146, 3, none⟩) (Kd.V_far (p := ⟨gb146, 2, none⟩) (Kd.V_far (p := ⟨gb146, 1, none⟩) (Kd.V_far (p := ⟨gb146, 0, none⟩) (Kd.V_mono HL148_10.out (fun k_ hk => (⟨hk, hk.2⟩ : _ ∧ k_ ≠ gb146))) (fun _ hk => hk.2) (.int .i64 ((rd_T54 l0 x6_1).f1.f0))) (fun _ hk => hk.2) (.int .i64 ((rd_T54 l0 x6_1).f1.f1))) (fun _ hk => hk.2) (.int .i64 ((rd_T54 l0 x6_1).f1.f2))) (fun _ hk => hk.2) (.bool ((rd_T54 l0 x6_1).f1.f3))) (fun _ hk => hk.2) (.string ((rd_T54 l0 x6_1).f1.f4))) (fun _ hk => hk.2) (.string ((rd_T54 l0 x6_1).f1.f5.f0))) (fun _ hk => hk.2) (.int .i64 ((rd_T54 l0 x6_1).f1.f5.f1))) (fun _ hk => hk.2) (.slice A147_8 ((rd_T54 l0 x6_1).f1.f6).length c147_8)) (fun _ hk => hk.2) (.slice A147_9 ((rd_T54 l0 x6_1).f1.f7).length c147_9)) (fun _ hk => hk.2) (.slice A147_10 ((rd_T54 l0 x6_1).f1.f8).length c147_10)) (fun _ hk => hk.1.1), by repeat (first | (with_reducible first | exact HB.out | apply below_alloc | apply pw_below_drewN | apply below_drew1 | refine below_set ?_ GE146.out) | exact HB.out)⟩
            · rw [if_neg c7] at H
              have c7b0 : (((rd_T54 l0 x6_1).f0).toList == a1.toList) = false := beq_eq_false_iff_ne.mpr c7
              have c7b1 : (((rd_T54 l0 x6_1).f0).toList != a1.toList) = true := bne_iff_ne.mpr c7
              have H' := Aside0.mk H
              clear H
              have p147 : 0 ≤ (x6_1 : Int) := of_decide_eq_true (by first | (with_reducible assumption) | assumption)
              have q147 : x6_1 < (l0.length : Int) := of_decide_eq_true (by first | (with_reducible assumption) | assumption)
              obtain ⟨ad147, A147_8, c147_8, A147_9, c147_9, A147_10, c147_10, e147, hx147_0, hx147_1, hx147_2, hx147_3, hx147_4, hx147_5, hx147_6, hx147_7, hx147_8, hx147_9, hx147_10, hl147_8, hi147_8, hl147_9, hi147_9, hl147_10, hi147_10⟩ := at_T54 (Kd.V_reads' HO_0.out).2.2 x6_1 p147 q147
              cases e147
              obtain ⟨ce147, hce147, hMe147, hcc147⟩ := Kd.V_get HO_0.out z54 x6_1 p147 (by first | exact q147 | exact of_decide_eq_true (by first | (with_reducible assumption) | assumption) | (have e_ := (Kd.V_reads' HO_0.out).1; omega))
              obtain ⟨ua147_8, uc147_8, ua147_9, uc147_9, ua147_10, uc147_10, rfl, ul147_8, ge147_8, ul147_9, ge147_9, ul147_10, ge147_10⟩ := k54_openF hMe147
              have hv147_8 := hcc147 8 _ rfl
              rw [add_field _ _ 8 (by omega)] at hv147_8
              replace hv147_8 := Option.some.inj (hv147_8.symm.trans hx147_8)
              injection hv147_8 with hva_ hvn_ hvc_
              rw [hva_] at ge147_8
              rw [hvc_] at ul147_8
              have HL147_8 := Aside0.mk (show Kd.V k31 31 _ w.heap.size _ _ ((rd_T54 l0 x6_1).f1.f6) from Kd.V_mk ul147_8 ge147_8)
              clear hva_ hvn_ hvc_ ge147_8 ul147_8
              have hv147_9 := hcc147 9 _ rfl
              rw [add_field _ _ 9 (by omega)] at hv147_9
              replace hv147_9 := Option.some.inj (hv147_9.symm.trans hx147_9)
              injection hv147_9 with hva_ hvn_ hvc_
              rw [hva_] at ge147_9
              rw [hvc_] at ul147_9
              have HL147_9 := Aside0.mk (show Kd.V Kd.string 9 _ w.heap.size _ _ ((rd_T54 l0 x6_1).f1.f7) from Kd.V_mk ul147_9 ge147_9)
              clear hva_ hvn_ hvc_ ge147_9 ul147_9
              have hv147_10 := hcc147 10 _ rfl
              rw [add_field _ _ 10 (by omega)] at hv147_10
              replace hv147_10 := Option.some.inj (hv147_10.symm.trans hx147_10)
              injection hv147_10 with hva_ hvn_ hvc_
              rw [hva_] at ge147_10
              rw [hvc_] at ul147_10
              have HL147_10 := Aside0.mk (show Kd.V k52 52 _ w.heap.size _ _ ((rd_T54 l0 x6_1).f1.f8) from Kd.V_mk ul147_10 ge147_10)
              clear hva_ hvn_ hvc_ ge147_10 ul147_10
              clear hcc147 hce147
              have HR147_8 := Aside0.mk hi147_8
              have HC147_8 := Aside0.mk hl147_8
              clear hi147_8 hl147_8
              have HR147_9 := Aside0.mk hi147_9
              have HC147_9 := Aside0.mk hl147_9
              clear hi147_9 hl147_9
              have HR147_10 := Aside0.mk hi147_10
              have HC147_10 := Aside0.mk hl147_10
              clear hi147_10 hl147_10
              replace p147 := eq_true p147
              replace q147 := eq_true q147
              go_wp2
              go_roundg k1
              case measure => have := HK1.out; omega
              case rel => exact ⟨(wrap64 (x6_1 - 1)), (x147000_1), (x147001_1), (x147002_1), (x147003_1), (x147004_1), (x147005_1), (x147006_1), (by first | rfl | (simp; done) | (simp [*]; done)), H', ⟨by have := HK1.out; omega⟩, ⟨by (with_reducible repeat (first | apply Kd.V_alloc | apply Kd.V_drewN | apply Kd.V_drew)); exact HO_0.out⟩, ⟨by (with_reducible repeat (first | refine blk_drewN ?_ _ | refine blk_drew ?_ | refine blk_alloc ?_ _)); exact BK146.out⟩, ⟨by repeat (first | (with_reducible first | exact HB.out | apply below_alloc | apply pw_below_drewN | apply below_drew1 | refine below_set ?_ GE146.out) | exact HB.out)⟩⟩
          · rw [if_neg c6] at H
            exact absurd H (by simp)
        · rw [if_neg c5] at H
          exact absurd H (by simp)
      · rw [if_neg c4] at H
        have c4b0 : decide (0 ≤ x6_1) = false := decide_eq_false c4
        clear c4
        simp only [Option.some.injEq, Prod.mk.injEq] at H
        obtain ⟨rfl, rfl, rfl, rfl, rfl, rfl, rfl, rfl, rfl, rfl, rfl⟩ := H
        have hcz9_0 : wr.cell? ⟨gb146, 0, none⟩ = some (.int .i64 x147000_1) := (blk_cell BK146.out 0).trans rfl
        have hcz9_1 : wr.cell? ⟨gb146, 1, none⟩ = some (.int .i64 x147001_1) := (blk_cell BK146.out 1).trans rfl
        have hcz9_2 : wr.cell? ⟨gb146, 2, none⟩ = some (.int .i64 x147002_1) := (blk_cell BK146.out 2).trans rfl
        have hcz9_3 : wr.cell? ⟨gb146, 3, none⟩ = some (.bool x147003_1) := (blk_cell BK146.out 3).trans rfl
        have hcz9_4 : wr.cell? ⟨gb146, 4, none⟩ = some (.string x147004_1) := (blk_cell BK146.out 4).trans rfl
        have hcz9_5 : wr.cell? ⟨gb146, 5, none⟩ = some (.string x147005_1) := (blk_cell BK146.out 5).trans rfl
        have hcz9_6 : wr.cell? ⟨gb146, 6, none⟩ = some (.int .i64 x147006_1) := (blk_cell BK146.out 6).trans rfl
        have hcz9_7 : wr.cell? ⟨gb146, 7, none⟩ = some (.slice none 0 0) := (blk_cell BK146.out 7).trans rfl
        have hcz9_8 : wr.cell? ⟨gb146, 8, none⟩ = some (.slice none 0 0) := (blk_cell BK146.out 8).trans rfl
        have hcz9_9 : wr.cell? ⟨gb146, 9, none⟩ = some (.slice none 0 0) := (blk_cell BK146.out 9).trans rfl
        have hfz9_0 := blk_frozen BK146.out 0
        have hfz9_1 := blk_frozen BK146.out 1
        have hfz9_2 := blk_frozen BK146.out 2
        have hfz9_3 := blk_frozen BK146.out 3
        have hfz9_4 := blk_frozen BK146.out 4
        have hfz9_5 := blk_frozen BK146.out 5
        have hfz9_6 := blk_frozen BK146.out 6
        have hfz9_7 := blk_frozen BK146.out 7
        have hfz9_8 := blk_frozen BK146.out 8
        have hfz9_9 := blk_frozen BK146.out 9
        go_wp2
        refine bodyPost_ret (results_ct rfl _ _ gb146 52 #[.int .i64 0, .int .i64 0, .int .i64 0, .bool false, .string (⟨#[]⟩ : ByteArray), .string (⟨#[]⟩ : ByteArray), .int .i64 0, .slice none 0 0, .slice none 0 0, .slice none 0 0] (0, 0) _ rfl (by (with_reducible repeat (first | refine blk_drewN ?_ _ | refine blk_drew ?_ | refine blk_alloc ?_ _)); refine blk_put (cs := #[.int .i64 0, .int .i64 0, .int .i64 0, .bool false, .string (⟨#[]⟩ : ByteArray), .string (⟨#[]⟩ : ByteArray), .int .i64 0, .slice none 0 0, .slice none 0 0, .slice none 0 0]) ?_ 9 _ rfl; (with_reducible repeat (first | refine blk_drewN ?_ _ | refine blk_drew ?_ | refine blk_alloc ?_ _)); refine blk_put (cs := #[.int .i64 0, .int .i64 0, .int .i64 0, .bool false, .string (⟨#[]⟩ : ByteArray), .string (⟨#[]⟩ : ByteArray), .int .i64 0, .slice none 0 0, .slice none 0 0, .slice none 0 0]) ?_ 8 _ rfl; (with_reducible repeat (first | refine blk_drewN ?_ _ | refine blk_drew ?_ | refine blk_alloc ?_ _)); refine blk_put (cs := #[.int .i64 0, .int .i64 0, .int .i64 0, .bool false, .string (⟨#[]⟩ : ByteArray), .string (⟨#[]⟩ : ByteArray), .int .i64 0, .slice none 0 0, .slice none 0 0, .slice none 0 0]) ?_ 7 _ rfl; (with_reducible repeat (first | refine blk_drewN ?_ _ | refine blk_drew ?_ | refine blk_alloc ?_ _)); refine blk_put (cs := #[.int .i64 0, .int .i64 0, .int .i64 0, .bool false, .string (⟨#[]⟩ : ByteArray), .string (⟨#[]⟩ : ByteArray), .int .i64 x147006_1, .slice none 0 0, .slice none 0 0, .slice none 0 0]) ?_ 6 _ rfl; (with_reducible repeat (first | refine blk_drewN ?_ _ | refine blk_drew ?_ | refine blk_alloc ?_ _)); refine blk_put (cs := #[.int .i64 0, .int .i64 0, .int .i64 0, .bool false, .string (⟨#[]⟩ : ByteArray), .string x147005_1, .int .i64 x147006_1, .slice none 0 0, .slice none 0 0, .slice none 0 0]) ?_ 5 _ rfl; (with_reducible repeat (first | refine blk_drewN ?_ _ | refine blk_drew ?_ | refine blk_alloc ?_ _)); refine blk_put (cs := #[.int .i64 0, .int .i64 0, .int .i64 0, .bool false, .string x147004_1, .string x147005_1, .int .i64 x147006_1, .slice none 0 0, .slice none 0 0, .slice none 0 0]) ?_ 4 _ rfl; (with_reducible repeat (first | refine blk_drewN ?_ _ | refine blk_drew ?_ | refine blk_alloc ?_ _)); refine blk_put (cs := #[.int .i64 0, .int .i64 0, .int .i64 0, .bool x147003_1, .string x147004_1, .string x147005_1, .int .i64 x147006_1, .slice none 0 0, .slice none 0 0, .slice none 0 0]) ?_ 3 _ rfl; (with_reducible repeat (first | refine blk_drewN ?_ _ | refine blk_drew ?_ | refine blk_alloc ?_ _)); refine blk_put (cs := #[.int .i64 0, .int .i64 0, .int .i64 x147002_1, .bool x147003_1, .string x147004_1, .string x147005_1, .int .i64 x147006_1, .slice none 0 0, .slice none 0 0, .slice none 0 0]) ?_ 2 _ rfl; (with_reducible repeat (first | refine blk_drewN ?_ _ | refine blk_drew ?_ | refine blk_alloc ?_ _)); refine blk_put (cs := #[.int .i64 0, .int .i64 x147001_1, .int .i64 x147002_1, .bool x147003_1, .string x147004_1, .string x147005_1, .int .i64 x147006_1, .slice none 0 0, .slice none 0 0, .slice none 0 0]) ?_ 1 _ rfl; (with_reducible repeat (first | refine blk_drewN ?_ _ | refine blk_drew ?_ | refine blk_alloc ?_ _)); refine blk_put (cs := #[.int .i64 x147000_1, .int .i64 x147001_1, .int .i64 x147002_1, .bool x147003_1, .string x147004_1, .string x147005_1, .int .i64 x147006_1, .slice none 0 0, .slice none 0 0, .slice none 0 0]) ?_ 0 _ rfl; (with_reducible repeat (first | refine blk_drewN ?_ _ | refine blk_drew ?_ | refine blk_alloc ?_ _)); exact BK146.out) Try.underlying52 rfl (by kernel_rfl)) rfl ?_
        exact ⟨_, _, _, by first | rfl | (simp [errW_none, errW_some] <;> rfl) | (simp [*, errW_none, errW_some] <;> rfl), (by first | exact Kd.V_nil _ _ _ _ _ | exact Kd.V_mono (Kd.R_V (by first | exact Kd.R_nil _ _ _ _ _ | exact Kd.N_nil _ _ _ _ _ | exact Kd.V_nil _ _ _ _ _ | exact Kd.Q_nil _ _ _ _ _ | exact Kd.S_nil _ _ _ _ _)) (fun k_ hk => by first | exact ⟨(.inr (hk.1)), hk.2⟩ | exact (.inr (hk)))), (by first | exact Kd.V_nil _ _ _ _ _ | exact Kd.V_mono (Kd.R_V (by first | exact Kd.R_nil _ _ _ _ _ | exact Kd.N_nil _ _ _ _ _ | exact Kd.V_nil _ _ _ _ _ | exact Kd.Q_nil _ _ _ _ _ | exact Kd.S_nil _ _ _ _ _)) (fun k_ hk => by first | exact ⟨(.inr (hk.1)), hk.2⟩ | exact (.inr (hk)))), (by first | exact Kd.V_nil _ _ _ _ _ | exact Kd.V_mono (Kd.R_V (by first | exact Kd.R_nil _ _ _ _ _ | exact Kd.N_nil _ _ _ _ _ | exact Kd.V_nil _ _ _ _ _ | exact Kd.Q_nil _ _ _ _ _ | exact Kd.S_nil _ _ _ _ _)) (fun k_ hk => by first | exact ⟨(.inr (hk.1)), hk.2⟩ | exact (.inr (hk)))), by repeat (first | (with_reducible first | exact HB.out | apply below_alloc | apply pw_below_drewN | apply below_drew1 | refine below_set ?_ GE146.out) | exact HB.out)⟩

/-! ### limbeckref01_Place: function 52 -/
def limbeckref01_Place.l0 : Nat → List ByteArray → ByteArray → Int → Option (Int)
  | 0, _, _, _ => none
  | k + 1, x0, x1, x5 => if x5 < (x0.length : Int) then (if 0 ≤ x5 then (if (rdOf ByteArray.empty x0 x5).toList = x1.toList then (some x5) else (limbeckref01_Place.l0 k x0 x1 (wrap64 (x5 + 1)))) else (none)) else (some (-1))
def limbeckref01_Place.f (k : Nat) (l0 : List ByteArray) (a1 : ByteArray) : Option (Int) := limbeckref01_Place.l0 k l0 a1 0
theorem limbeckref01_Place.mono_l : ∀ k, (∀ y0 y1 y2, LeO (limbeckref01_Place.l0 k y0 y1 y2) (limbeckref01_Place.l0 (k + 1) y0 y1 y2))
  | 0 => fun _ _ _ r h => by simp [limbeckref01_Place.l0] at h
  | k + 1 => by
    have ih0 := limbeckref01_Place.mono_l k
    · intro y0 y1 y2
      unfold limbeckref01_Place.l0
      repeat' first
      | (with_reducible exact ih0 _ _ _)
      | (with_reducible exact LeO.refl _)
      | (with_reducible exact LeO.none _)
      | (with_reducible refine LeO.ite ?_ ?_)
      | (with_reducible refine LeO.bind ?_ (fun _ => ?_))
      | exact ih0 _ _ _
      | exact LeO.none _
      | refine LeO.ite ?_ ?_
      | refine LeO.bind ?_ (fun _ => ?_)
theorem limbeckref01_Place.mono : ∀ a0 a1 k, LeO (limbeckref01_Place.f k a0 a1) (limbeckref01_Place.f (k + 1) a0 a1) := by
  intro a0 a1 k
  have ih0 := limbeckref01_Place.mono_l k
  unfold limbeckref01_Place.f
  repeat' first
      | (with_reducible exact ih0 _ _ _)
      | (with_reducible exact LeO.refl _)
      | (with_reducible exact LeO.none _)
      | (with_reducible refine LeO.ite ?_ ?_)
      | (with_reducible refine LeO.bind ?_ (fun _ => ?_))
      | exact ih0 _ _ _
      | exact LeO.none _
      | refine LeO.ite ?_ ?_
      | refine LeO.bind ?_ (fun _ => ?_)
set_option maxHeartbeats 8000000 in
set_option maxRecDepth 100000 in
theorem limbeckref01_Place.calls (k : Nat) (A0 : Option Addr) (c0 : Nat) (l0 : List ByteArray) (a1 : ByteArray) (r : Int) (w : World) (hr0 : Kd.C Kd.string w A0 l0.length l0) (hc0 : l0.length ≤ c0) (h : limbeckref01_Place.f k l0 a1 = some r) :
    Calls Try.prog 52 #[.slice A0 l0.length c0, .string a1] w fun e w' => e = .returned (.int .i64 r) ∧ Drawn0 w w' := by
  have HR0 := Aside0.mk hr0
  have HC0 := Aside0.mk hc0
  clear hr0 hc0
  have H : (limbeckref01_Place.l0 k l0 a1 0) = some r := h
  clear h
  have H' := Aside0.mk H
  clear H
  go_enter Try.func52, Try.ntmps52
  go_wp2
  go_loopg [5] k (fun kq v5 w' => ∃ (x5_1 : Int), v5 = .int .i64 x5_1 ∧ Aside0 (limbeckref01_Place.l0 kq l0 a1 x5_1 = some r) ∧ Aside0 (kq ≤ k) ∧ Drawn0 w w')
  case atStart => exact ⟨(0), (by first | rfl | (simp; done) | (simp [*]; done)), H', ⟨Nat.le_refl _⟩, by repeat (first | exact Drawn0.refl _ | apply Drawn0.step)⟩
  case round =>
    clear H'
    try clear p2
    obtain ⟨x5_1, rfl, HA, HK1, ⟨m1, rfl⟩⟩ := hrel
    cases gk with
    | zero => exact absurd HA.out (by simp [limbeckref01_Place.l0])
    | succ k1 =>
      have H := HA.out
      clear HA
      simp only [limbeckref01_Place.l0] at H
      by_cases c3 : x5_1 < (l0.length : Int)
      · rw [if_pos c3] at H
        have c3b0 : decide (x5_1 < (l0.length : Int)) = true := decide_eq_true c3
        clear c3
        by_cases c4 : 0 ≤ x5_1
        · rw [if_pos c4] at H
          have c4b0 : decide (0 ≤ x5_1) = true := decide_eq_true c4
          clear c4
          by_cases c5 : (rdOf ByteArray.empty l0 x5_1).toList = a1.toList
          · rw [if_pos c5] at H
            have c5b0 : ((rdOf ByteArray.empty l0 x5_1).toList == a1.toList) = true := beq_iff_eq.mpr c5
            have c5b1 : ((rdOf ByteArray.empty l0 x5_1).toList != a1.toList) = false := bne_eq_false_iff_eq.mpr c5
            clear c5
            obtain rfl := Option.some.inj H
            have p149 : 0 ≤ (x5_1 : Int) := of_decide_eq_true (by first | (with_reducible assumption) | assumption)
            have q149 : x5_1 < (l0.length : Int) := of_decide_eq_true (by first | (with_reducible assumption) | assumption)
            obtain ⟨ad149, e149, hx149_0⟩ := Kd.at_string HR0.out x5_1 p149 q149
            cases e149
            replace p149 := eq_true p149
            replace q149 := eq_true q149
            go_wp2
            go_ret
            exact ⟨by first | rfl | (simp; done) | (simp [*]; done), by repeat (first | exact Drawn0.refl _ | apply Drawn0.step)⟩
          · rw [if_neg c5] at H
            have c5b0 : ((rdOf ByteArray.empty l0 x5_1).toList == a1.toList) = false := beq_eq_false_iff_ne.mpr c5
            have c5b1 : ((rdOf ByteArray.empty l0 x5_1).toList != a1.toList) = true := bne_iff_ne.mpr c5
            have H' := Aside0.mk H
            clear H
            have p149 : 0 ≤ (x5_1 : Int) := of_decide_eq_true (by first | (with_reducible assumption) | assumption)
            have q149 : x5_1 < (l0.length : Int) := of_decide_eq_true (by first | (with_reducible assumption) | assumption)
            obtain ⟨ad149, e149, hx149_0⟩ := Kd.at_string HR0.out x5_1 p149 q149
            cases e149
            replace p149 := eq_true p149
            replace q149 := eq_true q149
            go_wp2
            go_roundg k1
            case measure => have := HK1.out; omega
            case rel => exact ⟨(wrap64 (x5_1 + 1)), (by first | rfl | (simp; done) | (simp [*]; done)), H', ⟨by have := HK1.out; omega⟩, by repeat (first | exact Drawn0.refl _ | apply Drawn0.step)⟩
        · rw [if_neg c4] at H
          exact absurd H (by simp)
      · rw [if_neg c3] at H
        have c3b0 : decide (x5_1 < (l0.length : Int)) = false := decide_eq_false c3
        clear c3
        obtain rfl := Option.some.inj H
        go_wp2
        go_ret
        exact ⟨by first | rfl | (simp; done) | (simp [*]; done), by repeat (first | exact Drawn0.refl _ | apply Drawn0.step)⟩

/-! ### limbeckref04_Seal: function 53 -/
def limbeckref04_Seal.f (a0 : Int) : Option (Int × Int × ByteArray × List ByteArray × (List (S31))) := some (9, a0, (⟨#[]⟩ : ByteArray), ([] : List ByteArray), ([] : List (S31)))
set_option maxHeartbeats 8000000 in
set_option maxRecDepth 100000 in
theorem limbeckref04_Seal.calls (a0 : Int) (r1 : Int) (r2 : Int) (r3 : ByteArray) (r4 : List ByteArray) (r5 : List (S31)) (w : World) (h : limbeckref04_Seal.f a0 = some (r1, r2, r3, r4, r5)) :
    Calls Try.prog 53 #[.int .i64 a0] w fun e w' => ∃ v3_ v4_ : Value, e = .returned (.agg #[.int .i64 r1, .int .i64 r2, .string r3, v3_, v4_]) ∧ Kd.R Kd.string 9 w' w.heap.size (fun _ => True) v3_ r4 ∧ Kd.R k31 31 w' w.heap.size (fun k_ => some k_ ≠ (v3_ : Value).ownBlock) v4_ r5 ∧ Below w.heap.size w w' := by
  have hu31 := Try.underlying31
  have HB := Aside0.mk (Below.refl w.heap.size w)
  have H : (some (9, a0, (⟨#[]⟩ : ByteArray), ([] : List ByteArray), ([] : List (S31)))) = some (r1, r2, r3, r4, r5) := h
  clear h
  simp only [Option.some.injEq, Prod.mk.injEq] at H
  obtain ⟨rfl, rfl, rfl, rfl, rfl⟩ := H
  go_enter Try.func53, Try.ntmps53
  go_wp2_with (first | ((with_reducible refine gate_dst (N := 2) rfl ?_); refine box_event ?hg (N := 2) ?hd (cs := #[.int .i64 0, .int .i64 0, .string (⟨#[]⟩ : ByteArray), .slice none 0 0, .slice none 0 0]) (t := 31) ?hr ?_; (case hd => rfl); (case hg => rfl); (case hr => first | (go_simp; done) | (go_simp; rfl)); intro gb150 hg w2 hbox hb; have n0_ := Aside0.mk (below_step (by repeat (first | (with_reducible first | exact HB.out | apply below_alloc | apply pw_below_drewN | apply below_drew1) | exact HB.out)) hb); have n1_ := Aside0.mk (hbox); have n2_ := Aside0.mk ((by rw [hg]; exact (below_size (by repeat (first | (with_reducible first | exact HB.out | apply below_alloc | apply pw_below_drewN | apply below_drew1) | exact HB.out))) : w.heap.size ≤ gb150)); have n3_ := Aside0.mk ((by rw [hg]; exact (below_size (by repeat (first | (with_reducible first | exact HB.out | apply below_alloc | apply pw_below_drewN | apply below_drew1) | exact HB.out))) : w.heap.size ≤ gb150)); clear HB; have HB := n0_; have BK150 := n1_; have GW150 := n2_; have GE150 := n3_; clear n0_ n1_ n2_ n3_; clear hb hbox hg; have hcz3_0 : w2.cell? ⟨gb150, 0, none⟩ = some (.int .i64 0) := (blk_cell BK150.out 0).trans rfl; have hcz3_1 : w2.cell? ⟨gb150, 1, none⟩ = some (.int .i64 0) := (blk_cell BK150.out 1).trans rfl; have hcz3_2 : w2.cell? ⟨gb150, 2, none⟩ = some (.string (⟨#[]⟩ : ByteArray)) := (blk_cell BK150.out 2).trans rfl; have hcz3_3 : w2.cell? ⟨gb150, 3, none⟩ = some (.slice none 0 0) := (blk_cell BK150.out 3).trans rfl; have hcz3_4 : w2.cell? ⟨gb150, 4, none⟩ = some (.slice none 0 0) := (blk_cell BK150.out 4).trans rfl; have hfz3_0 := blk_frozen BK150.out 0; have hfz3_1 := blk_frozen BK150.out 1; have hfz3_2 := blk_frozen BK150.out 2; have hfz3_3 := blk_frozen BK150.out 3; have hfz3_4 := blk_frozen BK150.out 4))
  refine bodyPost_ret (results_cell_row rfl _ _ gb150 31 #[.int .i64 9, .int .i64 a0, .string (⟨#[]⟩ : ByteArray), .slice none 0 0, .slice none 0 0] (0, 0) _ rfl (by (with_reducible repeat (first | refine blk_drewN ?_ _ | refine blk_drew ?_ | refine blk_alloc ?_ _)); refine blk_put (cs := #[.int .i64 9, .int .i64 a0, .string (⟨#[]⟩ : ByteArray), .slice none 0 0, .slice none 0 0]) ?_ 4 _ rfl; (with_reducible repeat (first | refine blk_drewN ?_ _ | refine blk_drew ?_ | refine blk_alloc ?_ _)); refine blk_put (cs := #[.int .i64 9, .int .i64 a0, .string (⟨#[]⟩ : ByteArray), .slice none 0 0, .slice none 0 0]) ?_ 3 _ rfl; (with_reducible repeat (first | refine blk_drewN ?_ _ | refine blk_drew ?_ | refine blk_alloc ?_ _)); refine blk_put (cs := #[.int .i64 9, .int .i64 a0, .string (⟨#[]⟩ : ByteArray), .slice none 0 0, .slice none 0 0]) ?_ 2 _ rfl; (with_reducible repeat (first | refine blk_drewN ?_ _ | refine blk_drew ?_ | refine blk_alloc ?_ _)); refine blk_put (cs := #[.int .i64 9, .int .i64 0, .string (⟨#[]⟩ : ByteArray), .slice none 0 0, .slice none 0 0]) ?_ 1 _ rfl; (with_reducible repeat (first | refine blk_drewN ?_ _ | refine blk_drew ?_ | refine blk_alloc ?_ _)); refine blk_put (cs := #[.int .i64 0, .int .i64 0, .string (⟨#[]⟩ : ByteArray), .slice none 0 0, .slice none 0 0]) ?_ 0 _ rfl; (with_reducible repeat (first | refine blk_drewN ?_ _ | refine blk_drew ?_ | refine blk_alloc ?_ _)); exact BK150.out) Try.underlying31 rfl (by kernel_rfl)) rfl ?_
  exact ⟨_, _, by first | rfl | (simp [errW_none, errW_some] <;> rfl) | (simp [*, errW_none, errW_some] <;> rfl), by first | exact Kd.R_nil _ _ _ _ _ | exact Kd.N_nil _ _ _ _ _ | exact Kd.V_nil _ _ _ _ _ | exact Kd.Q_nil _ _ _ _ _ | exact Kd.S_nil _ _ _ _ _, by first | exact Kd.R_nil _ _ _ _ _ | exact Kd.N_nil _ _ _ _ _ | exact Kd.V_nil _ _ _ _ _ | exact Kd.Q_nil _ _ _ _ _ | exact Kd.S_nil _ _ _ _ _, by repeat (first | (with_reducible first | exact HB.out | apply below_alloc | apply pw_below_drewN | apply below_drew1 | refine below_set ?_ GE150.out) | exact HB.out)⟩

end Go.Proofs.Ytalmhbiedkjpmaa.PEnvPlays

/-
  ConvKeeps: texts of this claim, put together by a program of this session. No conditions beyond what each lemma says.
-/
import Derived.Test.YtnfnhjhnfdkinaazConvKeeps10
import Derived.Test.YtnfnhjhnfdkinaazConvKeeps13
namespace Go.Proofs.Ytnfnhjhnfdkinaa.PConvBack
open Go.RowKit Go.Proofs.YtnfnhjhnfdkinaaW.Mine Go.Proofs.YtnfnhjhnfdkinaaW.PrintWords Go.Proofs.YtnfnhjhnfdkinaaW.PrintLast Go.Proofs.YtnfnhjhnfdkinaaW.PrintMore
attribute [local go_sem] max2_int min2_int max_two min_two max_three min_three max_four min_four   -- for this text's walks alone
set_option linter.unusedVariables false
set_option linter.unusedSimpArgs false

/-! ### limbecklaw28_Few: function 37 -/
mutual
def limbecklaw28_Few.l0 : Nat → List (S86) → Int → Int → Option (Int)
  | 0, _, _, _ => none
  | k + 1, x0, x3, x4 => if x4 < (x0.length : Int) then (limbecklaw28_Few.j1 k x0 x3 x4 (decide (x4 < 20))) else (limbecklaw28_Few.j1 k x0 x3 x4 false)
def limbecklaw28_Few.j1 : Nat → List (S86) → Int → Int → Bool → Option (Int)
  | 0, _, _, _, _ => none
  | k + 1, x0, x3, x4, x12 => if x12 = true then (if 0 ≤ x4 then (if x4 < (x0.length : Int) then ((limbecklaw04_Much.f k ((rd_T86 x0 x4).f0.f0) ((rd_T86 x0 x4).f0.f1) ((rd_T86 x0 x4).f0.f2) ((rd_T86 x0 x4).f0.f3) ((rd_T86 x0 x4).f0.f4)).bind fun t165 => ((limbecklaw04_Much.f k ((rd_T86 x0 x4).f1.f0) ((rd_T86 x0 x4).f1.f1) ((rd_T86 x0 x4).f1.f2) ((rd_T86 x0 x4).f1.f3) ((rd_T86 x0 x4).f1.f4)).bind fun t167 => (limbecklaw28_Few.l0 k x0 (mx (mx (mx x3 t165) t167) (wrap64 ((((rd_T86 x0 x4).f2.f0).size : Int) / 8))) (wrap64 (x4 + 1))))) else (none)) else (none)) else (if (x0.length : Int) > 12 then (some 5000) else (some x3))
end
def limbecklaw28_Few.f (k : Nat) (l0 : List (S86)) : Option (Int) := limbecklaw28_Few.l0 k l0 0 0
def limbecklaw28_Few.T5 : Bool × List (List Nat × List Nat) := (true, [([], []), ([], []), ([], []), ([1, 2], [1, 2]), ([3], [3]), ([4], [4]), ([5], [5]), ([], []), ([], []), ([7, 8], [7, 8]), ([9], [9]), ([10], [10]), ([11, 6], [11]), ([], []), ([], []), ([13, 14], [13, 14]), ([15], [15]), ([16], [16]), ([17], [17]), ([18], [18]), ([19], [19]), ([0, 6, 12, 20], [0, 6, 12, 20]), ([21, 12, 0, 1, 2, 3, 4, 5, 6, 7, 8, 9, 10, 11, 12, 13, 14, 15, 16, 17, 18, 19, 20, 21], [0, 21])])
def limbecklaw28_Few.B5 : List Nat := [0, 0, 0, 6, 14, 30, 62, 0, 0, 384, 896, 1920, 4094, 0, 0, 24576, 57344, 122880, 253952, 516096, 1040384, 2097151, 4194303]
theorem limbecklaw28_Few.tab5 : rtab .any (opsOf Try.f37 5) = limbecklaw28_Few.T5 := by kernel_rfl
theorem limbecklaw28_Few.bits5 : waitsOk limbecklaw28_Few.T5.2 limbecklaw28_Few.B5 = true := by kernel_rfl
set_option maxHeartbeats 8000000 in
set_option maxRecDepth 100000 in
theorem limbecklaw28_Few.calls (k : Nat) (A0 : Option Addr) (c0 : Nat) (l0 : List (S86)) (r : Int) (w : World) (hr0 : Kd.C k86 w A0 l0.length l0) (hc0 : l0.length ≤ c0) (h : limbecklaw28_Few.f k l0 = some r) :
    Calls Try.prog 37 #[.slice A0 l0.length c0] w fun e w' => e = .returned (.int .i64 r) ∧ Below w.heap.size w w' := by
  have hu25 := Try.underlying25
  have HR0 := Aside0.mk hr0
  have HC0 := Aside0.mk hc0
  clear hr0 hc0
  have HB := Aside0.mk (Below.refl w.heap.size w)
  have H : (limbecklaw28_Few.l0 k l0 0 0) = some r := h
  clear h
  have H' := Aside0.mk H
  clear H
  go_enter Try.func37, Try.ntmps37
  go_wp2
  go_loopg [3, 4] k (fun kq v3 v4 w' => ∃ (x3_1 : Int) (x4_1 : Int), v3 = .int .i64 x3_1 ∧ v4 = .int .i64 x4_1 ∧ Aside0 (limbecklaw28_Few.l0 kq l0 x3_1 x4_1 = some r) ∧ Aside0 (kq ≤ k) ∧ Aside0 (Below w.heap.size w w'))
  case atStart => exact ⟨(0), (0), (by first | rfl | (simp; done) | (simp [*]; done)), (by first | rfl | (simp; done) | (simp [*]; done)), H', ⟨Nat.le_refl _⟩, ⟨by repeat (first | (with_reducible first | exact HB.out | apply below_alloc | apply pw_below_drewN | apply below_drew1) | exact HB.out)⟩⟩
  case round =>
    clear H'
    obtain ⟨x3_1, x4_1, rfl, rfl, HA, HK1, HB⟩ := hrel
    cases gk with
    | zero => exact absurd HA.out (by simp [limbecklaw28_Few.l0])
    | succ k1 =>
      have H := HA.out
      clear HA
      simp only [limbecklaw28_Few.l0] at H
      have HC2 := Aside0.mk H
      clear H
      go_upto_region 3 with (fail)
      go_cut [12] (fun v12 wc => ∃ (kq : Nat) (x12_1 : Bool), v12 = .bool x12_1 ∧ Aside0 (limbecklaw28_Few.j1 kq l0 x3_1 x4_1 x12_1 = some r) ∧ Aside0 (kq ≤ k1) ∧ Aside0 (Below w.heap.size w wc))
      case first =>
        have H := HC2.out
        clear HC2
        by_cases c3 : x4_1 < (l0.length : Int)
        · rw [if_pos c3] at H
          have c3b0 : decide (x4_1 < (l0.length : Int)) = true := decide_eq_true c3
          clear c3
          (first | rw [c3b0] | (simp only [i64_w, i32_w]; rw [c3b0]) | skip)
          have H' := Aside0.mk H
          clear H
          go_wp2
          go_meet
          case rel => exact ⟨_, (decide (x4_1 < 20)), (by first | rfl | (simp; done) | (simp [*]; done)), H', ⟨by have := HK1.out; first | omega | exact Nat.le_refl _⟩, ⟨by repeat (first | (with_reducible first | exact HB.out | apply below_alloc | apply pw_below_drewN | apply below_drew1) | exact HB.out)⟩⟩
        · rw [if_neg c3] at H
          have c3b0 : decide (x4_1 < (l0.length : Int)) = false := decide_eq_false c3
          clear c3
          (first | rw [c3b0] | (simp only [i64_w, i32_w]; rw [c3b0]) | skip)
          have H' := Aside0.mk H
          clear H
          go_wp2
          go_meet
          case rel => exact ⟨_, (false), (by first | rfl | (simp; done) | (simp [*]; done)), H', ⟨by have := HK1.out; first | omega | exact Nat.le_refl _⟩, ⟨by repeat (first | (with_reducible first | exact HB.out | apply below_alloc | apply pw_below_drewN | apply below_drew1) | exact HB.out)⟩⟩
      case rest =>
        clear HC2
        try clear p2
        try clear c3
        try clear c3b0
        obtain ⟨kq, x12_1, rfl, HA, HJ1, HB⟩ := hcut
        cases kq with
        | zero => exact absurd HA.out (by simp [limbecklaw28_Few.j1])
        | succ kj1 =>
          have H := HA.out
          clear HA
          simp only [limbecklaw28_Few.j1] at H
          by_cases c4 : x12_1 = true
          · subst c4
            have H1 : (if 0 ≤ x4_1 then (if x4_1 < (l0.length : Int) then ((limbecklaw04_Much.f kj1 ((rd_T86 l0 x4_1).f0.f0) ((rd_T86 l0 x4_1).f0.f1) ((rd_T86 l0 x4_1).f0.f2) ((rd_T86 l0 x4_1).f0.f3) ((rd_T86 l0 x4_1).f0.f4)).bind fun t165 => ((limbecklaw04_Much.f kj1 ((rd_T86 l0 x4_1).f1.f0) ((rd_T86 l0 x4_1).f1.f1) ((rd_T86 l0 x4_1).f1.f2) ((rd_T86 l0 x4_1).f1.f3) ((rd_T86 l0 x4_1).f1.f4)).bind fun t167 => (limbecklaw28_Few.l0 kj1 l0 (mx (mx (mx x3_1 t165) t167) (wrap64 ((((rd_T86 l0 x4_1).f2.f0).size : Int) / 8))) (wrap64 (x4_1 + 1))))) else (none)) else (none)) = some r := by rw [if_pos rfl] at H; exact H
            clear H
            have H := H1
            clear H1
            by_cases c5 : 0 ≤ x4_1
            · rw [if_pos c5] at H
              have c5b0 : decide (0 ≤ x4_1) = true := decide_eq_true c5
              clear c5
              by_cases c6 : x4_1 < (l0.length : Int)
              · rw [if_pos c6] at H
                have c6b0 : decide (x4_1 < (l0.length : Int)) = true := decide_eq_true c6
                clear c6
                replace H := Option.bind_eq_some_iff.mp H
                obtain ⟨t165, A70, H⟩ := H
                replace H : ((limbecklaw04_Much.f kj1 ((rd_T86 l0 x4_1).f1.f0) ((rd_T86 l0 x4_1).f1.f1) ((rd_T86 l0 x4_1).f1.f2) ((rd_T86 l0 x4_1).f1.f3) ((rd_T86 l0 x4_1).f1.f4)).bind fun t167 => (limbecklaw28_Few.l0 kj1 l0 (mx (mx (mx x3_1 t165) t167) (wrap64 ((((rd_T86 l0 x4_1).f2.f0).size : Int) / 8))) (wrap64 (x4_1 + 1)))) = some r := H
                have A7 := Aside0.mk A70
                clear A70
                replace H := Option.bind_eq_some_iff.mp H
                obtain ⟨t167, A80, H⟩ := H
                replace H : (limbecklaw28_Few.l0 kj1 l0 (mx (mx (mx x3_1 t165) t167) (wrap64 ((((rd_T86 l0 x4_1).f2.f0).size : Int) / 8))) (wrap64 (x4_1 + 1))) = some r := H
                have A8 := Aside0.mk A80
                clear A80
                obtain ⟨ji9, hji9⟩ : ∃ j_ : Int, (mx x3_1 t165) = j_ := ⟨_, rfl⟩
                replace H : (limbecklaw28_Few.l0 kj1 l0 (mx (mx (ji9) t167) (wrap64 ((((rd_T86 l0 x4_1).f2.f0).size : Int) / 8))) (wrap64 (x4_1 + 1))) = some r := by first | (rw [hji9] at H; exact H) | (simp only [hji9] at H ⊢; exact H)
                (try rw [hji9] at A7)
                (try rw [hji9] at A8)
                have hji9_ : (if x3_1 < t165 then t165 else x3_1) = ji9 := hji9
                obtain ⟨ji10, hji10⟩ : ∃ j_ : Int, (mx (ji9) t167) = j_ := ⟨_, rfl⟩
                replace H : (limbecklaw28_Few.l0 kj1 l0 (mx (ji10) (wrap64 ((((rd_T86 l0 x4_1).f2.f0).size : Int) / 8))) (wrap64 (x4_1 + 1))) = some r := by first | (rw [hji10] at H; exact H) | (simp only [hji10] at H ⊢; exact H)
                (try rw [hji10] at A7)
                (try rw [hji10] at A8)
                have hji10_ : (if (ji9) < t167 then t167 else (ji9)) = ji10 := hji10
                obtain ⟨ji11, hji11⟩ : ∃ j_ : Int, (mx (ji10) (wrap64 ((((rd_T86 l0 x4_1).f2.f0).size : Int) / 8))) = j_ := ⟨_, rfl⟩
                replace H : (limbecklaw28_Few.l0 kj1 l0 ji11 (wrap64 (x4_1 + 1))) = some r := by first | (rw [hji11] at H; exact H) | (simp only [hji11] at H ⊢; exact H)
                (try rw [hji11] at A7)
                (try rw [hji11] at A8)
                have hji11_ : (if (ji10) < (wrap64 ((((rd_T86 l0 x4_1).f2.f0).size : Int) / 8)) then (wrap64 ((((rd_T86 l0 x4_1).f2.f0).size : Int) / 8)) else (ji10)) = ji11 := hji11
                have H' := Aside0.mk H
                clear H
                try go_wp2
                have n0_ := Aside0.mk (below_drew1 HB.out)
                clear HB
                have HB := n0_
                clear n0_
                have p164 : 0 ≤ (x4_1 : Int) := of_decide_eq_true (by first | (with_reducible assumption) | assumption)
                have q164 : x4_1 < (l0.length : Int) := of_decide_eq_true (by first | (with_reducible assumption) | assumption)
                obtain ⟨ad164, A164_3, c164_3, A164_4, c164_4, A164_8, c164_8, A164_9, c164_9, e164, hx164_0, hx164_1, hx164_2, hx164_3, hx164_4, hx164_5, hx164_6, hx164_7, hx164_8, hx164_9, hx164_10, hx164_11, hl164_3, hi164_3, hl164_4, hi164_4, hl164_8, hi164_8, hl164_9, hi164_9⟩ := at_T86 HR0.out x4_1 p164 q164
                have hw164_11 := hx164_11
                have hw164_10 := hx164_10
                have hw164_9 := hx164_9
                have hw164_8 := hx164_8
                have hw164_7 := hx164_7
                have hw164_6 := hx164_6
                have hw164_5 := hx164_5
                have hw164_4 := hx164_4
                have hw164_3 := hx164_3
                have hw164_2 := hx164_2
                have hw164_1 := hx164_1
                have hw164_0 := hx164_0
                cases e164
                replace hx164_0 := (HB.out.cell (World.block_lt_of_cell? w _ hx164_0)).trans hx164_0
                replace hx164_1 := (HB.out.cell (World.block_lt_of_cell? w _ hx164_1)).trans hx164_1
                replace hx164_2 := (HB.out.cell (World.block_lt_of_cell? w _ hx164_2)).trans hx164_2
                replace hx164_3 := (HB.out.cell (World.block_lt_of_cell? w _ hx164_3)).trans hx164_3
                replace hx164_4 := (HB.out.cell (World.block_lt_of_cell? w _ hx164_4)).trans hx164_4
                replace hx164_5 := (HB.out.cell (World.block_lt_of_cell? w _ hx164_5)).trans hx164_5
                replace hx164_6 := (HB.out.cell (World.block_lt_of_cell? w _ hx164_6)).trans hx164_6
                replace hx164_7 := (HB.out.cell (World.block_lt_of_cell? w _ hx164_7)).trans hx164_7
                replace hx164_8 := (HB.out.cell (World.block_lt_of_cell? w _ hx164_8)).trans hx164_8
                replace hx164_9 := (HB.out.cell (World.block_lt_of_cell? w _ hx164_9)).trans hx164_9
                replace hx164_10 := (HB.out.cell (World.block_lt_of_cell? w _ hx164_10)).trans hx164_10
                replace hx164_11 := (HB.out.cell (World.block_lt_of_cell? w _ hx164_11)).trans hx164_11
                have HR164_3 := Aside0.mk hi164_3
                have HC164_3 := Aside0.mk hl164_3
                clear hi164_3 hl164_3
                have HR164_4 := Aside0.mk hi164_4
                have HC164_4 := Aside0.mk hl164_4
                clear hi164_4 hl164_4
                have HR164_8 := Aside0.mk hi164_8
                have HC164_8 := Aside0.mk hl164_8
                clear hi164_8 hl164_8
                have HR164_9 := Aside0.mk hi164_9
                have HC164_9 := Aside0.mk hl164_9
                clear hi164_9 hl164_9
                replace p164 := eq_true p164
                replace q164 := eq_true q164
                have p166 : 0 ≤ (x4_1 : Int) := of_decide_eq_true (by first | (with_reducible assumption) | assumption)
                have q166 : x4_1 < (l0.length : Int) := of_decide_eq_true (by first | (with_reducible assumption) | assumption)
                obtain ⟨ad166, A166_3, c166_3, A166_4, c166_4, A166_8, c166_8, A166_9, c166_9, e166, hx166_0, hx166_1, hx166_2, hx166_3, hx166_4, hx166_5, hx166_6, hx166_7, hx166_8, hx166_9, hx166_10, hx166_11, hl166_3, hi166_3, hl166_4, hi166_4, hl166_8, hi166_8, hl166_9, hi166_9⟩ := at_T86 HR0.out x4_1 p166 q166
                have hw166_11 := hx166_11
                have hw166_10 := hx166_10
                have hw166_9 := hx166_9
                have hw166_8 := hx166_8
                have hw166_7 := hx166_7
                have hw166_6 := hx166_6
                have hw166_5 := hx166_5
                have hw166_4 := hx166_4
                have hw166_3 := hx166_3
                have hw166_2 := hx166_2
                have hw166_1 := hx166_1
                have hw166_0 := hx166_0
                obtain rfl : ad164 = ad166 := (by injection e166)
                replace hx166_0 := (HB.out.cell (World.block_lt_of_cell? w _ hx166_0)).trans hx166_0
                replace hx166_1 := (HB.out.cell (World.block_lt_of_cell? w _ hx166_1)).trans hx166_1
                replace hx166_2 := (HB.out.cell (World.block_lt_of_cell? w _ hx166_2)).trans hx166_2
                replace hx166_3 := (HB.out.cell (World.block_lt_of_cell? w _ hx166_3)).trans hx166_3
                replace hx166_4 := (HB.out.cell (World.block_lt_of_cell? w _ hx166_4)).trans hx166_4
                replace hx166_5 := (HB.out.cell (World.block_lt_of_cell? w _ hx166_5)).trans hx166_5
                replace hx166_6 := (HB.out.cell (World.block_lt_of_cell? w _ hx166_6)).trans hx166_6
                replace hx166_7 := (HB.out.cell (World.block_lt_of_cell? w _ hx166_7)).trans hx166_7
                replace hx166_8 := (HB.out.cell (World.block_lt_of_cell? w _ hx166_8)).trans hx166_8
                replace hx166_9 := (HB.out.cell (World.block_lt_of_cell? w _ hx166_9)).trans hx166_9
                replace hx166_10 := (HB.out.cell (World.block_lt_of_cell? w _ hx166_10)).trans hx166_10
                replace hx166_11 := (HB.out.cell (World.block_lt_of_cell? w _ hx166_11)).trans hx166_11
                have HR166_3 := Aside0.mk hi166_3
                have HC166_3 := Aside0.mk hl166_3
                clear hi166_3 hl166_3
                have HR166_4 := Aside0.mk hi166_4
                have HC166_4 := Aside0.mk hl166_4
                clear hi166_4 hl166_4
                have HR166_8 := Aside0.mk hi166_8
                have HC166_8 := Aside0.mk hl166_8
                clear hi166_8 hl166_8
                have HR166_9 := Aside0.mk hi166_9
                have HC166_9 := Aside0.mk hl166_9
                clear hi166_9 hl166_9
                replace p166 := eq_true p166
                replace q166 := eq_true q166
                have ea_ := Option.some.inj (hx164_3.symm.trans hx166_3)
                injection ea_ with ea_ en_ ec_
                subst ea_
                subst ec_
                clear en_
                have ea_ := Option.some.inj (hx164_4.symm.trans hx166_4)
                injection ea_ with ea_ en_ ec_
                subst ea_
                subst ec_
                clear en_
                have ea_ := Option.some.inj (hx164_8.symm.trans hx166_8)
                injection ea_ with ea_ en_ ec_
                subst ea_
                subst ec_
                clear en_
                have ea_ := Option.some.inj (hx164_9.symm.trans hx166_9)
                injection ea_ with ea_ en_ ec_
                subst ea_
                subst ec_
                clear en_
                have p168 : 0 ≤ (x4_1 : Int) := of_decide_eq_true (by first | (with_reducible assumption) | assumption)
                have q168 : x4_1 < (l0.length : Int) := of_decide_eq_true (by first | (with_reducible assumption) | assumption)
                obtain ⟨ad168, A168_3, c168_3, A168_4, c168_4, A168_8, c168_8, A168_9, c168_9, e168, hx168_0, hx168_1, hx168_2, hx168_3, hx168_4, hx168_5, hx168_6, hx168_7, hx168_8, hx168_9, hx168_10, hx168_11, hl168_3, hi168_3, hl168_4, hi168_4, hl168_8, hi168_8, hl168_9, hi168_9⟩ := at_T86 HR0.out x4_1 p168 q168
                have hw168_11 := hx168_11
                have hw168_10 := hx168_10
                have hw168_9 := hx168_9
                have hw168_8 := hx168_8
                have hw168_7 := hx168_7
                have hw168_6 := hx168_6
                have hw168_5 := hx168_5
                have hw168_4 := hx168_4
                have hw168_3 := hx168_3
                have hw168_2 := hx168_2
                have hw168_1 := hx168_1
                have hw168_0 := hx168_0
                obtain rfl : ad164 = ad168 := (by injection e168)
                replace hx168_0 := (HB.out.cell (World.block_lt_of_cell? w _ hx168_0)).trans hx168_0
                replace hx168_1 := (HB.out.cell (World.block_lt_of_cell? w _ hx168_1)).trans hx168_1
                replace hx168_2 := (HB.out.cell (World.block_lt_of_cell? w _ hx168_2)).trans hx168_2
                replace hx168_3 := (HB.out.cell (World.block_lt_of_cell? w _ hx168_3)).trans hx168_3
                replace hx168_4 := (HB.out.cell (World.block_lt_of_cell? w _ hx168_4)).trans hx168_4
                replace hx168_5 := (HB.out.cell (World.block_lt_of_cell? w _ hx168_5)).trans hx168_5
                replace hx168_6 := (HB.out.cell (World.block_lt_of_cell? w _ hx168_6)).trans hx168_6
                replace hx168_7 := (HB.out.cell (World.block_lt_of_cell? w _ hx168_7)).trans hx168_7
                replace hx168_8 := (HB.out.cell (World.block_lt_of_cell? w _ hx168_8)).trans hx168_8
                replace hx168_9 := (HB.out.cell (World.block_lt_of_cell? w _ hx168_9)).trans hx168_9
                replace hx168_10 := (HB.out.cell (World.block_lt_of_cell? w _ hx168_10)).trans hx168_10
                replace hx168_11 := (HB.out.cell (World.block_lt_of_cell? w _ hx168_11)).trans hx168_11
                have HR168_3 := Aside0.mk hi168_3
                have HC168_3 := Aside0.mk hl168_3
                clear hi168_3 hl168_3
                have HR168_4 := Aside0.mk hi168_4
                have HC168_4 := Aside0.mk hl168_4
                clear hi168_4 hl168_4
                have HR168_8 := Aside0.mk hi168_8
                have HC168_8 := Aside0.mk hl168_8
                clear hi168_8 hl168_8
                have HR168_9 := Aside0.mk hi168_9
                have HC168_9 := Aside0.mk hl168_9
                clear hi168_9 hl168_9
                replace p168 := eq_true p168
                replace q168 := eq_true q168
                have ea_ := Option.some.inj (hx164_3.symm.trans hx168_3)
                injection ea_ with ea_ en_ ec_
                subst ea_
                subst ec_
                clear en_
                have ea_ := Option.some.inj (hx164_4.symm.trans hx168_4)
                injection ea_ with ea_ en_ ec_
                subst ea_
                subst ec_
                clear en_
                have ea_ := Option.some.inj (hx164_8.symm.trans hx168_8)
                injection ea_ with ea_ en_ ec_
                subst ea_
                subst ec_
                clear en_
                have ea_ := Option.some.inj (hx164_9.symm.trans hx168_9)
                injection ea_ with ea_ en_ ec_
                subst ea_
                subst ec_
                clear en_
                refine start_ (n := 23) (S := fun w' => w'.cell? (ad164.add ((x4_1).toNat * 12)) = some (.int .i64 ((rd_T86 l0 x4_1).f0.f0)) ∧ w'.cell? ⟨(ad164.add ((x4_1).toNat * 12)).block, (ad164.add ((x4_1).toNat * 12)).off + 1, none⟩ = some (.int .i64 ((rd_T86 l0 x4_1).f0.f1)) ∧ w'.cell? ⟨(ad164.add ((x4_1).toNat * 12)).block, (ad164.add ((x4_1).toNat * 12)).off + 2, none⟩ = some (.string ((rd_T86 l0 x4_1).f0.f2)) ∧ w'.cell? ⟨(ad164.add ((x4_1).toNat * 12)).block, (ad164.add ((x4_1).toNat * 12)).off + 3, none⟩ = some (.slice A164_3 ((rd_T86 l0 x4_1).f0.f3).length c164_3) ∧ w'.cell? ⟨(ad164.add ((x4_1).toNat * 12)).block, (ad164.add ((x4_1).toNat * 12)).off + 4, none⟩ = some (.slice A164_4 ((rd_T86 l0 x4_1).f0.f4).length c164_4) ∧ w'.cell? ⟨(ad164.add ((x4_1).toNat * 12)).block, (ad164.add ((x4_1).toNat * 12)).off + 5, none⟩ = some (.int .i64 ((rd_T86 l0 x4_1).f1.f0)) ∧ w'.cell? ⟨(ad164.add ((x4_1).toNat * 12)).block, (ad164.add ((x4_1).toNat * 12)).off + 6, none⟩ = some (.int .i64 ((rd_T86 l0 x4_1).f1.f1)) ∧ w'.cell? ⟨(ad164.add ((x4_1).toNat * 12)).block, (ad164.add ((x4_1).toNat * 12)).off + 7, none⟩ = some (.string ((rd_T86 l0 x4_1).f1.f2)) ∧ w'.cell? ⟨(ad164.add ((x4_1).toNat * 12)).block, (ad164.add ((x4_1).toNat * 12)).off + 8, none⟩ = some (.slice A164_8 ((rd_T86 l0 x4_1).f1.f3).length c164_8) ∧ w'.cell? ⟨(ad164.add ((x4_1).toNat * 12)).block, (ad164.add ((x4_1).toNat * 12)).off + 9, none⟩ = some (.slice A164_9 ((rd_T86 l0 x4_1).f1.f4).length c164_9) ∧ w'.cell? ⟨(ad164.add ((x4_1).toNat * 12)).block, (ad164.add ((x4_1).toNat * 12)).off + 10, none⟩ = some (.string ((rd_T86 l0 x4_1).f2.f0)) ∧ w'.cell? ⟨(ad164.add ((x4_1).toNat * 12)).block, (ad164.add ((x4_1).toNat * 12)).off + 11, none⟩ = some (.int .i64 ((rd_T86 l0 x4_1).f2.f1)) ∧ w'.cell? (ad164.add ((x4_1).toNat * 12)) = some (.int .i64 ((rd_T86 l0 x4_1).f0.f0)) ∧ w'.cell? ⟨(ad164.add ((x4_1).toNat * 12)).block, (ad164.add ((x4_1).toNat * 12)).off + 1, none⟩ = some (.int .i64 ((rd_T86 l0 x4_1).f0.f1)) ∧ w'.cell? ⟨(ad164.add ((x4_1).toNat * 12)).block, (ad164.add ((x4_1).toNat * 12)).off + 2, none⟩ = some (.string ((rd_T86 l0 x4_1).f0.f2)) ∧ w'.cell? ⟨(ad164.add ((x4_1).toNat * 12)).block, (ad164.add ((x4_1).toNat * 12)).off + 3, none⟩ = some (.slice A164_3 ((rd_T86 l0 x4_1).f0.f3).length c164_3) ∧ w'.cell? ⟨(ad164.add ((x4_1).toNat * 12)).block, (ad164.add ((x4_1).toNat * 12)).off + 4, none⟩ = some (.slice A164_4 ((rd_T86 l0 x4_1).f0.f4).length c164_4) ∧ w'.cell? ⟨(ad164.add ((x4_1).toNat * 12)).block, (ad164.add ((x4_1).toNat * 12)).off + 5, none⟩ = some (.int .i64 ((rd_T86 l0 x4_1).f1.f0)) ∧ w'.cell? ⟨(ad164.add ((x4_1).toNat * 12)).block, (ad164.add ((x4_1).toNat * 12)).off + 6, none⟩ = some (.int .i64 ((rd_T86 l0 x4_1).f1.f1)) ∧ w'.cell? ⟨(ad164.add ((x4_1).toNat * 12)).block, (ad164.add ((x4_1).toNat * 12)).off + 7, none⟩ = some (.string ((rd_T86 l0 x4_1).f1.f2)) ∧ w'.cell? ⟨(ad164.add ((x4_1).toNat * 12)).block, (ad164.add ((x4_1).toNat * 12)).off + 8, none⟩ = some (.slice A164_8 ((rd_T86 l0 x4_1).f1.f3).length c164_8) ∧ w'.cell? ⟨(ad164.add ((x4_1).toNat * 12)).block, (ad164.add ((x4_1).toNat * 12)).off + 9, none⟩ = some (.slice A164_9 ((rd_T86 l0 x4_1).f1.f4).length c164_9) ∧ w'.cell? ⟨(ad164.add ((x4_1).toNat * 12)).block, (ad164.add ((x4_1).toNat * 12)).off + 10, none⟩ = some (.string ((rd_T86 l0 x4_1).f2.f0)) ∧ w'.cell? ⟨(ad164.add ((x4_1).toNat * 12)).block, (ad164.add ((x4_1).toNat * 12)).off + 11, none⟩ = some (.int .i64 ((rd_T86 l0 x4_1).f2.f1)) ∧ w'.cell? (ad164.add ((x4_1).toNat * 12)) = some (.int .i64 ((rd_T86 l0 x4_1).f0.f0)) ∧ w'.cell? ⟨(ad164.add ((x4_1).toNat * 12)).block, (ad164.add ((x4_1).toNat * 12)).off + 1, none⟩ = some (.int .i64 ((rd_T86 l0 x4_1).f0.f1)) ∧ w'.cell? ⟨(ad164.add ((x4_1).toNat * 12)).block, (ad164.add ((x4_1).toNat * 12)).off + 2, none⟩ = some (.string ((rd_T86 l0 x4_1).f0.f2)) ∧ w'.cell? ⟨(ad164.add ((x4_1).toNat * 12)).block, (ad164.add ((x4_1).toNat * 12)).off + 3, none⟩ = some (.slice A164_3 ((rd_T86 l0 x4_1).f0.f3).length c164_3) ∧ w'.cell? ⟨(ad164.add ((x4_1).toNat * 12)).block, (ad164.add ((x4_1).toNat * 12)).off + 4, none⟩ = some (.slice A164_4 ((rd_T86 l0 x4_1).f0.f4).length c164_4) ∧ w'.cell? ⟨(ad164.add ((x4_1).toNat * 12)).block, (ad164.add ((x4_1).toNat * 12)).off + 5, none⟩ = some (.int .i64 ((rd_T86 l0 x4_1).f1.f0)) ∧ w'.cell? ⟨(ad164.add ((x4_1).toNat * 12)).block, (ad164.add ((x4_1).toNat * 12)).off + 6, none⟩ = some (.int .i64 ((rd_T86 l0 x4_1).f1.f1)) ∧ w'.cell? ⟨(ad164.add ((x4_1).toNat * 12)).block, (ad164.add ((x4_1).toNat * 12)).off + 7, none⟩ = some (.string ((rd_T86 l0 x4_1).f1.f2)) ∧ w'.cell? ⟨(ad164.add ((x4_1).toNat * 12)).block, (ad164.add ((x4_1).toNat * 12)).off + 8, none⟩ = some (.slice A164_8 ((rd_T86 l0 x4_1).f1.f3).length c164_8) ∧ w'.cell? ⟨(ad164.add ((x4_1).toNat * 12)).block, (ad164.add ((x4_1).toNat * 12)).off + 9, none⟩ = some (.slice A164_9 ((rd_T86 l0 x4_1).f1.f4).length c164_9) ∧ w'.cell? ⟨(ad164.add ((x4_1).toNat * 12)).block, (ad164.add ((x4_1).toNat * 12)).off + 10, none⟩ = some (.string ((rd_T86 l0 x4_1).f2.f0)) ∧ w'.cell? ⟨(ad164.add ((x4_1).toNat * 12)).block, (ad164.add ((x4_1).toNat * 12)).off + 11, none⟩ = some (.int .i64 ((rd_T86 l0 x4_1).f2.f1))) (ds := []) #[false, false, false, false, false, false, false, false, false, false, false, false, false, false, false, false, false, false, false, false, false, false, false] (by kernel_rfl) rfl rfl ⟨((HB.out.cell (World.block_lt_of_cell? w _ hw164_0)).trans hw164_0), ((HB.out.cell (World.block_lt_of_cell? w _ hw164_1)).trans hw164_1), ((HB.out.cell (World.block_lt_of_cell? w _ hw164_2)).trans hw164_2), ((HB.out.cell (World.block_lt_of_cell? w _ hw164_3)).trans hw164_3), ((HB.out.cell (World.block_lt_of_cell? w _ hw164_4)).trans hw164_4), ((HB.out.cell (World.block_lt_of_cell? w _ hw164_5)).trans hw164_5), ((HB.out.cell (World.block_lt_of_cell? w _ hw164_6)).trans hw164_6), ((HB.out.cell (World.block_lt_of_cell? w _ hw164_7)).trans hw164_7), ((HB.out.cell (World.block_lt_of_cell? w _ hw164_8)).trans hw164_8), ((HB.out.cell (World.block_lt_of_cell? w _ hw164_9)).trans hw164_9), ((HB.out.cell (World.block_lt_of_cell? w _ hw164_10)).trans hw164_10), ((HB.out.cell (World.block_lt_of_cell? w _ hw164_11)).trans hw164_11), ((HB.out.cell (World.block_lt_of_cell? w _ hw166_0)).trans hw166_0), ((HB.out.cell (World.block_lt_of_cell? w _ hw166_1)).trans hw166_1), ((HB.out.cell (World.block_lt_of_cell? w _ hw166_2)).trans hw166_2), ((HB.out.cell (World.block_lt_of_cell? w _ hw166_3)).trans hw166_3), ((HB.out.cell (World.block_lt_of_cell? w _ hw166_4)).trans hw166_4), ((HB.out.cell (World.block_lt_of_cell? w _ hw166_5)).trans hw166_5), ((HB.out.cell (World.block_lt_of_cell? w _ hw166_6)).trans hw166_6), ((HB.out.cell (World.block_lt_of_cell? w _ hw166_7)).trans hw166_7), ((HB.out.cell (World.block_lt_of_cell? w _ hw166_8)).trans hw166_8), ((HB.out.cell (World.block_lt_of_cell? w _ hw166_9)).trans hw166_9), ((HB.out.cell (World.block_lt_of_cell? w _ hw166_10)).trans hw166_10), ((HB.out.cell (World.block_lt_of_cell? w _ hw166_11)).trans hw166_11), ((HB.out.cell (World.block_lt_of_cell? w _ hw168_0)).trans hw168_0), ((HB.out.cell (World.block_lt_of_cell? w _ hw168_1)).trans hw168_1), ((HB.out.cell (World.block_lt_of_cell? w _ hw168_2)).trans hw168_2), ((HB.out.cell (World.block_lt_of_cell? w _ hw168_3)).trans hw168_3), ((HB.out.cell (World.block_lt_of_cell? w _ hw168_4)).trans hw168_4), ((HB.out.cell (World.block_lt_of_cell? w _ hw168_5)).trans hw168_5), ((HB.out.cell (World.block_lt_of_cell? w _ hw168_6)).trans hw168_6), ((HB.out.cell (World.block_lt_of_cell? w _ hw168_7)).trans hw168_7), ((HB.out.cell (World.block_lt_of_cell? w _ hw168_8)).trans hw168_8), ((HB.out.cell (World.block_lt_of_cell? w _ hw168_9)).trans hw168_9), ((HB.out.cell (World.block_lt_of_cell? w _ hw168_10)).trans hw168_10), ((HB.out.cell (World.block_lt_of_cell? w _ hw168_11)).trans hw168_11)⟩ (fun hHeld => ?_); refine with_tabW limbecklaw28_Few.tab5 limbecklaw28_Few.bits5 (fun HT_ HW_ => ?_)
                generalize wc.drew = w12 at HB HR164_3 HR164_4 HR164_8 HR164_9 HR166_3 HR166_4 HR166_8 HR166_9 HR168_3 HR168_4 HR168_8 HR168_9 hx164_0 hx164_1 hx164_10 hx164_11 hx164_2 hx164_3 hx164_4 hx164_5 hx164_6 hx164_7 hx164_8 hx164_9 hx166_0 hx166_1 hx166_10 hx166_11 hx166_2 hx166_3 hx166_4 hx166_5 hx166_6 hx166_7 hx166_8 hx166_9 hx168_0 hx168_1 hx168_10 hx168_11 hx168_2 hx168_3 hx168_4 hx168_5 hx168_6 hx168_7 hx168_8 hx168_9 hHeld ⊢
                refine pure_ (i := 0) (N := some 15) (v := ?_) (a' := ?_) #[true, false, false, false, false, false, false, false, false, false, false, false, false, false, false, false, false, false, false, false, false, false, false] rfl rfl (any_of HT_.out (by kernel_rfl)) (fun _ _ _ h => h) (Or.inl ⟨by rfl, ?_⟩) ?_ ?_
                rotate_left
                · intro w'
                  go_simp
                  with_reducible rfl
                rotate_left
                · simp only [Act.put, List.setIfInBounds_toArray, List.set_cons_zero, List.set_cons_succ, i64_w, i32_w]
                  rfl
                refine pure_ (i := 1) (N := some 16) (v := ?_) (a' := ?_) #[true, true, false, false, false, false, false, false, false, false, false, false, false, false, false, false, false, false, false, false, false, false, false] rfl rfl (any_of HT_.out (by kernel_rfl)) (fun _ _ _ h => h) (Or.inl ⟨by rfl, ?_⟩) ?_ ?_
                rotate_left
                · intro w'
                  go_simp
                  with_reducible rfl
                rotate_left
                · simp only [Act.put, List.setIfInBounds_toArray, List.set_cons_zero, List.set_cons_succ, i64_w, i32_w]
                  rfl
                refine pure_ (i := 2) (N := some 17) (v := ?_) (a' := ?_) #[true, true, true, false, false, false, false, false, false, false, false, false, false, false, false, false, false, false, false, false, false, false, false] rfl rfl (any_of HT_.out (by kernel_rfl)) (fun _ _ _ h => h) (Or.inl ⟨by rfl, ?_⟩) ?_ ?_
                rotate_left
                · intro w'
                  go_simp
                  with_reducible rfl
                rotate_left
                · simp only [Act.put, List.setIfInBounds_toArray, List.set_cons_zero, List.set_cons_succ, i64_w, i32_w]
                  rfl
                refine pure_ (i := 3) (N := some 18) (v := ?_) (a' := ?_) #[true, true, true, true, false, false, false, false, false, false, false, false, false, false, false, false, false, false, false, false, false, false, false] rfl rfl (any_of HT_.out (by kernel_rfl)) (fun _ _ _ h => h) (Or.inl ⟨by rfl, ?_⟩) ?_ ?_
                rotate_left
                · intro w'
                  go_simp
                  with_reducible rfl
                rotate_left
                · simp only [Act.put, List.setIfInBounds_toArray, List.set_cons_zero, List.set_cons_succ, i64_w, i32_w]
                  rfl
                refine pure_ (i := 4) (N := some 19) (v := ?_) (a' := ?_) #[true, true, true, true, true, false, false, false, false, false, false, false, false, false, false, false, false, false, false, false, false, false, false] rfl rfl (any_of HT_.out (by kernel_rfl)) (fun _ _ _ h => h) (Or.inl ⟨by rfl, ?_⟩) ?_ ?_
                rotate_left
                · intro w'
                  go_simp
                  with_reducible rfl
                rotate_left
                · simp only [Act.put, List.setIfInBounds_toArray, List.set_cons_zero, List.set_cons_succ, i64_w, i32_w]
                  rfl
                refine pure_ (i := 7) (N := some 22) (v := ?_) (a' := ?_) #[true, true, true, true, true, false, false, true, false, false, false, false, false, false, false, false, false, false, false, false, false, false, false] rfl rfl (any_of HT_.out (by kernel_rfl)) (fun _ _ _ h => h) (Or.inl ⟨by rfl, ?_⟩) ?_ ?_
                rotate_left
                · intro w'
                  go_simp
                  with_reducible rfl
                rotate_left
                · simp only [Act.put, List.setIfInBounds_toArray, List.set_cons_zero, List.set_cons_succ, i64_w, i32_w]
                  rfl
                refine pure_ (i := 8) (N := some 23) (v := ?_) (a' := ?_) #[true, true, true, true, true, false, false, true, true, false, false, false, false, false, false, false, false, false, false, false, false, false, false] rfl rfl (any_of HT_.out (by kernel_rfl)) (fun _ _ _ h => h) (Or.inl ⟨by rfl, ?_⟩) ?_ ?_
                rotate_left
                · intro w'
                  go_simp
                  with_reducible rfl
                rotate_left
                · simp only [Act.put, List.setIfInBounds_toArray, List.set_cons_zero, List.set_cons_succ, i64_w, i32_w]
                  rfl
                refine pure_ (i := 9) (N := some 24) (v := ?_) (a' := ?_) #[true, true, true, true, true, false, false, true, true, true, false, false, false, false, false, false, false, false, false, false, false, false, false] rfl rfl (any_of HT_.out (by kernel_rfl)) (fun _ _ _ h => h) (Or.inl ⟨by rfl, ?_⟩) ?_ ?_
                rotate_left
                · intro w'
                  go_simp
                  with_reducible rfl
                rotate_left
                · simp only [Act.put, List.setIfInBounds_toArray, List.set_cons_zero, List.set_cons_succ, i64_w, i32_w]
                  rfl
                refine pure_ (i := 10) (N := some 25) (v := ?_) (a' := ?_) #[true, true, true, true, true, false, false, true, true, true, true, false, false, false, false, false, false, false, false, false, false, false, false] rfl rfl (any_of HT_.out (by kernel_rfl)) (fun _ _ _ h => h) (Or.inl ⟨by rfl, ?_⟩) ?_ ?_
                rotate_left
                · intro w'
                  go_simp
                  with_reducible rfl
                rotate_left
                · simp only [Act.put, List.setIfInBounds_toArray, List.set_cons_zero, List.set_cons_succ, i64_w, i32_w]
                  rfl
                refine pure_ (i := 13) (N := some 28) (v := ?_) (a' := ?_) #[true, true, true, true, true, false, false, true, true, true, true, false, false, true, false, false, false, false, false, false, false, false, false] rfl rfl (any_of HT_.out (by kernel_rfl)) (fun _ _ _ h => h) (Or.inl ⟨by rfl, ?_⟩) ?_ ?_
                rotate_left
                · intro w'
                  go_simp
                  with_reducible rfl
                rotate_left
                · simp only [Act.put, List.setIfInBounds_toArray, List.set_cons_zero, List.set_cons_succ, i64_w, i32_w]
                  rfl
                refine pure_ (i := 14) (N := some 29) (v := ?_) (a' := ?_) #[true, true, true, true, true, false, false, true, true, true, true, false, false, true, true, false, false, false, false, false, false, false, false] rfl rfl (any_of HT_.out (by kernel_rfl)) (fun _ _ _ h => h) (Or.inl ⟨by rfl, ?_⟩) ?_ ?_
                rotate_left
                · intro w'
                  go_simp
                  with_reducible rfl
                rotate_left
                · simp only [Act.put, List.setIfInBounds_toArray, List.set_cons_zero, List.set_cons_succ, i64_w, i32_w]
                  rfl
                refine pure_ (i := 15) (N := some 30) (v := ?_) (a' := ?_) #[true, true, true, true, true, false, false, true, true, true, true, false, false, true, true, true, false, false, false, false, false, false, false] rfl rfl (any_of HT_.out (by kernel_rfl)) (fun _ _ _ h => h) (Or.inl ⟨by rfl, ?_⟩) ?_ ?_
                rotate_left
                · intro w'
                  go_simp
                  with_reducible rfl
                rotate_left
                · simp only [Act.put, List.setIfInBounds_toArray, List.set_cons_zero, List.set_cons_succ, i64_w, i32_w]
                  rfl
                refine pure_ (i := 16) (N := some 31) (v := ?_) (a' := ?_) #[true, true, true, true, true, false, false, true, true, true, true, false, false, true, true, true, true, false, false, false, false, false, false] rfl rfl (any_of HT_.out (by kernel_rfl)) (fun _ _ _ h => h) (Or.inl ⟨by rfl, ?_⟩) ?_ ?_
                rotate_left
                · intro w'
                  go_simp
                  with_reducible rfl
                rotate_left
                · simp only [Act.put, List.setIfInBounds_toArray, List.set_cons_zero, List.set_cons_succ, i64_w, i32_w]
                  rfl
                refine pure_ (i := 17) (N := some 32) (v := ?_) (a' := ?_) #[true, true, true, true, true, false, false, true, true, true, true, false, false, true, true, true, true, true, false, false, false, false, false] rfl rfl (any_of HT_.out (by kernel_rfl)) (fun _ _ _ h => h) (Or.inl ⟨by rfl, ?_⟩) ?_ ?_
                rotate_left
                · intro w'
                  go_simp
                  with_reducible rfl
                rotate_left
                · simp only [Act.put, List.setIfInBounds_toArray, List.set_cons_zero, List.set_cons_succ, i64_w, i32_w]
                  rfl
                refine take_ (i := 5) (N := some 20) (v := ?_) (a' := ?_) #[true, true, true, true, true, true, false, true, true, true, true, false, false, true, true, true, true, true, false, false, false, false, false] rfl rfl (take_ofW HT_.out HW_.out (by kernel_rfl)) (fun _ _ _ h => h) (Or.inl ⟨by rfl, ?_⟩) hHeld ?_ ?_
                rotate_left
                · rintro w' ⟨s0, s1, s2, s3, s4, s5, s6, s7, s8, s9, s10, s11, s12, s13, s14, s15, s16, s17, s18, s19, s20, s21, s22, s23, s24, s25, s26, s27, s28, s29, s30, s31, s32, s33, s34, s35⟩
                  go_simp
                  with_reducible rfl
                rotate_left
                · simp only [Act.put, List.setIfInBounds_toArray, List.set_cons_zero, List.set_cons_succ, i64_w, i32_w]
                  rfl
                refine take_ (i := 11) (N := some 26) (v := ?_) (a' := ?_) #[true, true, true, true, true, true, false, true, true, true, true, true, false, true, true, true, true, true, false, false, false, false, false] rfl rfl (take_ofW HT_.out HW_.out (by kernel_rfl)) (fun _ _ _ h => h) (Or.inl ⟨by rfl, ?_⟩) hHeld ?_ ?_
                rotate_left
                · rintro w' ⟨s0, s1, s2, s3, s4, s5, s6, s7, s8, s9, s10, s11, s12, s13, s14, s15, s16, s17, s18, s19, s20, s21, s22, s23, s24, s25, s26, s27, s28, s29, s30, s31, s32, s33, s34, s35⟩
                  go_simp
                  with_reducible rfl
                rotate_left
                · simp only [Act.put, List.setIfInBounds_toArray, List.set_cons_zero, List.set_cons_succ, i64_w, i32_w]
                  rfl
                refine take_ (i := 18) (N := some 33) (v := ?_) (a' := ?_) #[true, true, true, true, true, true, false, true, true, true, true, true, false, true, true, true, true, true, true, false, false, false, false] rfl rfl (take_ofW HT_.out HW_.out (by kernel_rfl)) (fun _ _ _ h => h) (Or.inl ⟨by rfl, ?_⟩) hHeld ?_ ?_
                rotate_left
                · rintro w' ⟨s0, s1, s2, s3, s4, s5, s6, s7, s8, s9, s10, s11, s12, s13, s14, s15, s16, s17, s18, s19, s20, s21, s22, s23, s24, s25, s26, s27, s28, s29, s30, s31, s32, s33, s34, s35⟩
                  go_simp
                  with_reducible rfl
                rotate_left
                · simp only [Act.put, List.setIfInBounds_toArray, List.set_cons_zero, List.set_cons_succ, i64_w, i32_w]
                  rfl
                refine pure_ (i := 19) (N := some 34) (v := ?_) (a' := ?_) #[true, true, true, true, true, true, false, true, true, true, true, true, false, true, true, true, true, true, true, true, false, false, false] rfl rfl (any_of HT_.out (by kernel_rfl)) (fun _ _ _ h => h) (Or.inl ⟨by rfl, ?_⟩) ?_ ?_
                rotate_left
                · intro w'
                  go_simp
                  with_reducible rfl
                rotate_left
                · simp only [Act.put, List.setIfInBounds_toArray, List.set_cons_zero, List.set_cons_succ, i64_w, i32_w]
                  rfl
                refine pure_ (i := 20) (N := some 35) (v := ?_) (a' := ?_) #[true, true, true, true, true, true, false, true, true, true, true, true, false, true, true, true, true, true, true, true, true, false, false] rfl rfl (any_of HT_.out (by kernel_rfl)) (fun _ _ _ h => h) (Or.inl ⟨by rfl, ?_⟩) ?_ ?_
                rotate_left
                · intro w'
                  go_simp
                  with_reducible rfl
                rotate_left
                · simp only [Act.put, List.setIfInBounds_toArray, List.set_cons_zero, List.set_cons_succ, i64_w, i32_w]
                  rfl
                refine one_ (i := 6) (N := some 21) #[true, true, true, true, true, true, true, true, true, true, true, true, false, true, true, true, true, true, true, true, true, false, false] rfl rfl (one_of HT_.out (by kernel_rfl)) (by decide) (fun K hK => ?_)
                refine goes_ Try.func14 (by kernel_rfl) rfl #[.agg #[.int .i64 ((rd_T86 l0 x4_1).f0.f0), .int .i64 ((rd_T86 l0 x4_1).f0.f1), .string ((rd_T86 l0 x4_1).f0.f2), .slice A164_3 ((rd_T86 l0 x4_1).f0.f3).length c164_3, .slice A164_4 ((rd_T86 l0 x4_1).f0.f4).length c164_4]] (by rfl) rfl rfl (by (try simp only [List.map_toArray, List.map_cons, List.map_nil]); first | done | rfl | (simp only [List.length_drop, List.length_take]; rfl)) ?_
                with_reducible refine (limbecklaw04_Much.calls kj1 ((rd_T86 l0 x4_1).f0.f0) ((rd_T86 l0 x4_1).f0.f1) ((rd_T86 l0 x4_1).f0.f2) _ _ ((rd_T86 l0 x4_1).f0.f3) _ _ ((rd_T86 l0 x4_1).f0.f4) t165 _ ?side1 ?side2 ?side3 ?side4 A7.out).mono ?_
                (case side1 => repeat (first | exact (Kd.C_below HR164_3.out HB.out) | (with_reducible refine Kd.C_alloc ?_ _) | (with_reducible refine Kd.C_drewN ?_ _) | (with_reducible refine Kd.C_drew ?_)))
                (case side2 => exact HC164_3.out)
                (case side3 => repeat (first | exact (Kd.C_below HR164_4.out HB.out) | (with_reducible refine Kd.C_alloc ?_ _) | (with_reducible refine Kd.C_drewN ?_ _) | (with_reducible refine Kd.C_drew ?_)))
                (case side4 => exact HC164_4.out)
                rintro e w13 ⟨rfl, hb⟩
                refine ⟨_, rfl, ?_⟩
                have n0_ := Aside0.mk (below_step (by repeat (first | (with_reducible first | exact HB.out | apply below_alloc | apply pw_below_drewN | apply below_drew1) | exact HB.out)) hb)
                clear HB
                have HB := n0_
                clear n0_
                (try clear hb)
                (try clear hb2)
                (try clear hk)
                (try clear hi)
                refine hK.out _ _ ⟨((HB.out.cell (World.block_lt_of_cell? w _ hw164_0)).trans hw164_0), ((HB.out.cell (World.block_lt_of_cell? w _ hw164_1)).trans hw164_1), ((HB.out.cell (World.block_lt_of_cell? w _ hw164_2)).trans hw164_2), ((HB.out.cell (World.block_lt_of_cell? w _ hw164_3)).trans hw164_3), ((HB.out.cell (World.block_lt_of_cell? w _ hw164_4)).trans hw164_4), ((HB.out.cell (World.block_lt_of_cell? w _ hw164_5)).trans hw164_5), ((HB.out.cell (World.block_lt_of_cell? w _ hw164_6)).trans hw164_6), ((HB.out.cell (World.block_lt_of_cell? w _ hw164_7)).trans hw164_7), ((HB.out.cell (World.block_lt_of_cell? w _ hw164_8)).trans hw164_8), ((HB.out.cell (World.block_lt_of_cell? w _ hw164_9)).trans hw164_9), ((HB.out.cell (World.block_lt_of_cell? w _ hw164_10)).trans hw164_10), ((HB.out.cell (World.block_lt_of_cell? w _ hw164_11)).trans hw164_11), ((HB.out.cell (World.block_lt_of_cell? w _ hw166_0)).trans hw166_0), ((HB.out.cell (World.block_lt_of_cell? w _ hw166_1)).trans hw166_1), ((HB.out.cell (World.block_lt_of_cell? w _ hw166_2)).trans hw166_2), ((HB.out.cell (World.block_lt_of_cell? w _ hw166_3)).trans hw166_3), ((HB.out.cell (World.block_lt_of_cell? w _ hw166_4)).trans hw166_4), ((HB.out.cell (World.block_lt_of_cell? w _ hw166_5)).trans hw166_5), ((HB.out.cell (World.block_lt_of_cell? w _ hw166_6)).trans hw166_6), ((HB.out.cell (World.block_lt_of_cell? w _ hw166_7)).trans hw166_7), ((HB.out.cell (World.block_lt_of_cell? w _ hw166_8)).trans hw166_8), ((HB.out.cell (World.block_lt_of_cell? w _ hw166_9)).trans hw166_9), ((HB.out.cell (World.block_lt_of_cell? w _ hw166_10)).trans hw166_10), ((HB.out.cell (World.block_lt_of_cell? w _ hw166_11)).trans hw166_11), ((HB.out.cell (World.block_lt_of_cell? w _ hw168_0)).trans hw168_0), ((HB.out.cell (World.block_lt_of_cell? w _ hw168_1)).trans hw168_1), ((HB.out.cell (World.block_lt_of_cell? w _ hw168_2)).trans hw168_2), ((HB.out.cell (World.block_lt_of_cell? w _ hw168_3)).trans hw168_3), ((HB.out.cell (World.block_lt_of_cell? w _ hw168_4)).trans hw168_4), ((HB.out.cell (World.block_lt_of_cell? w _ hw168_5)).trans hw168_5), ((HB.out.cell (World.block_lt_of_cell? w _ hw168_6)).trans hw168_6), ((HB.out.cell (World.block_lt_of_cell? w _ hw168_7)).trans hw168_7), ((HB.out.cell (World.block_lt_of_cell? w _ hw168_8)).trans hw168_8), ((HB.out.cell (World.block_lt_of_cell? w _ hw168_9)).trans hw168_9), ((HB.out.cell (World.block_lt_of_cell? w _ hw168_10)).trans hw168_10), ((HB.out.cell (World.block_lt_of_cell? w _ hw168_11)).trans hw168_11)⟩ (fun hHeld => ?_)
                clear hK K
                refine norm_ (a' := ?_) ?_ ?_
                rotate_left
                · show Act.put _ (some 21) _ = _
                  simp only [Act.put, List.setIfInBounds_toArray, List.set_cons_zero, List.set_cons_succ, i64_w, i32_w]
                  rfl
                refine one_ (i := 12) (N := some 27) #[true, true, true, true, true, true, true, true, true, true, true, true, true, true, true, true, true, true, true, true, true, false, false] rfl rfl (one_of HT_.out (by kernel_rfl)) (by decide) (fun K hK => ?_)
                refine goes_ Try.func14 (by kernel_rfl) rfl #[.agg #[.int .i64 ((rd_T86 l0 x4_1).f1.f0), .int .i64 ((rd_T86 l0 x4_1).f1.f1), .string ((rd_T86 l0 x4_1).f1.f2), .slice A164_8 ((rd_T86 l0 x4_1).f1.f3).length c164_8, .slice A164_9 ((rd_T86 l0 x4_1).f1.f4).length c164_9]] (by rfl) rfl rfl (by (try simp only [List.map_toArray, List.map_cons, List.map_nil]); first | done | rfl | (simp only [List.length_drop, List.length_take]; rfl)) ?_
                with_reducible refine (limbecklaw04_Much.calls kj1 ((rd_T86 l0 x4_1).f1.f0) ((rd_T86 l0 x4_1).f1.f1) ((rd_T86 l0 x4_1).f1.f2) _ _ ((rd_T86 l0 x4_1).f1.f3) _ _ ((rd_T86 l0 x4_1).f1.f4) t167 _ ?side1 ?side2 ?side3 ?side4 A8.out).mono ?_
                (case side1 => repeat (first | exact (Kd.C_below HR166_8.out HB.out) | (with_reducible refine Kd.C_alloc ?_ _) | (with_reducible refine Kd.C_drewN ?_ _) | (with_reducible refine Kd.C_drew ?_)))
                (case side2 => exact HC166_8.out)
                (case side3 => repeat (first | exact (Kd.C_below HR166_9.out HB.out) | (with_reducible refine Kd.C_alloc ?_ _) | (with_reducible refine Kd.C_drewN ?_ _) | (with_reducible refine Kd.C_drew ?_)))
                (case side4 => exact HC166_9.out)
                rintro e w14 ⟨rfl, hb⟩
                refine ⟨_, rfl, ?_⟩
                have n0_ := Aside0.mk (below_step (by repeat (first | (with_reducible first | exact HB.out | apply below_alloc | apply pw_below_drewN | apply below_drew1) | exact HB.out)) hb)
                clear HB
                have HB := n0_
                clear n0_
                (try clear hb)
                (try clear hb2)
                (try clear hk)
                (try clear hi)
                refine hK.out _ _ ⟨((HB.out.cell (World.block_lt_of_cell? w _ hw164_0)).trans hw164_0), ((HB.out.cell (World.block_lt_of_cell? w _ hw164_1)).trans hw164_1), ((HB.out.cell (World.block_lt_of_cell? w _ hw164_2)).trans hw164_2), ((HB.out.cell (World.block_lt_of_cell? w _ hw164_3)).trans hw164_3), ((HB.out.cell (World.block_lt_of_cell? w _ hw164_4)).trans hw164_4), ((HB.out.cell (World.block_lt_of_cell? w _ hw164_5)).trans hw164_5), ((HB.out.cell (World.block_lt_of_cell? w _ hw164_6)).trans hw164_6), ((HB.out.cell (World.block_lt_of_cell? w _ hw164_7)).trans hw164_7), ((HB.out.cell (World.block_lt_of_cell? w _ hw164_8)).trans hw164_8), ((HB.out.cell (World.block_lt_of_cell? w _ hw164_9)).trans hw164_9), ((HB.out.cell (World.block_lt_of_cell? w _ hw164_10)).trans hw164_10), ((HB.out.cell (World.block_lt_of_cell? w _ hw164_11)).trans hw164_11), ((HB.out.cell (World.block_lt_of_cell? w _ hw166_0)).trans hw166_0), ((HB.out.cell (World.block_lt_of_cell? w _ hw166_1)).trans hw166_1), ((HB.out.cell (World.block_lt_of_cell? w _ hw166_2)).trans hw166_2), ((HB.out.cell (World.block_lt_of_cell? w _ hw166_3)).trans hw166_3), ((HB.out.cell (World.block_lt_of_cell? w _ hw166_4)).trans hw166_4), ((HB.out.cell (World.block_lt_of_cell? w _ hw166_5)).trans hw166_5), ((HB.out.cell (World.block_lt_of_cell? w _ hw166_6)).trans hw166_6), ((HB.out.cell (World.block_lt_of_cell? w _ hw166_7)).trans hw166_7), ((HB.out.cell (World.block_lt_of_cell? w _ hw166_8)).trans hw166_8), ((HB.out.cell (World.block_lt_of_cell? w _ hw166_9)).trans hw166_9), ((HB.out.cell (World.block_lt_of_cell? w _ hw166_10)).trans hw166_10), ((HB.out.cell (World.block_lt_of_cell? w _ hw166_11)).trans hw166_11), ((HB.out.cell (World.block_lt_of_cell? w _ hw168_0)).trans hw168_0), ((HB.out.cell (World.block_lt_of_cell? w _ hw168_1)).trans hw168_1), ((HB.out.cell (World.block_lt_of_cell? w _ hw168_2)).trans hw168_2), ((HB.out.cell (World.block_lt_of_cell? w _ hw168_3)).trans hw168_3), ((HB.out.cell (World.block_lt_of_cell? w _ hw168_4)).trans hw168_4), ((HB.out.cell (World.block_lt_of_cell? w _ hw168_5)).trans hw168_5), ((HB.out.cell (World.block_lt_of_cell? w _ hw168_6)).trans hw168_6), ((HB.out.cell (World.block_lt_of_cell? w _ hw168_7)).trans hw168_7), ((HB.out.cell (World.block_lt_of_cell? w _ hw168_8)).trans hw168_8), ((HB.out.cell (World.block_lt_of_cell? w _ hw168_9)).trans hw168_9), ((HB.out.cell (World.block_lt_of_cell? w _ hw168_10)).trans hw168_10), ((HB.out.cell (World.block_lt_of_cell? w _ hw168_11)).trans hw168_11)⟩ (fun hHeld => ?_)
                clear hK K
                refine norm_ (a' := ?_) ?_ ?_
                rotate_left
                · show Act.put _ (some 27) _ = _
                  simp only [Act.put, List.setIfInBounds_toArray, List.set_cons_zero, List.set_cons_succ, i64_w, i32_w]
                  rfl
                refine pure_ (i := 21) (N := some 36) (v := ?_) (a' := ?_) #[true, true, true, true, true, true, true, true, true, true, true, true, true, true, true, true, true, true, true, true, true, true, false] rfl rfl (any_of HT_.out (by kernel_rfl)) (fun _ _ _ h => h) (Or.inl ⟨by rfl, ?_⟩) ?_ ?_
                rotate_left
                · intro w'
                  go_simp
                  with_reducible rfl
                rotate_left
                · simp only [Act.put, List.setIfInBounds_toArray, List.set_cons_zero, List.set_cons_succ, i64_w, i32_w]
                  rfl
                refine pure_ (i := 22) (N := some 3) (v := ?_) (a' := ?_) #[true, true, true, true, true, true, true, true, true, true, true, true, true, true, true, true, true, true, true, true, true, true, true] rfl rfl (any_of HT_.out (by kernel_rfl)) (fun _ _ _ h => h) (Or.inl ⟨by rfl, ?_⟩) ?_ ?_
                rotate_left
                · intro w'
                  go_simp
                  with_reducible rfl
                rotate_left
                · simp only [Act.put, List.setIfInBounds_toArray, List.set_cons_zero, List.set_cons_succ, i64_w, i32_w]
                  rfl
                refine done_ (done_of HT_.out (by kernel_rfl)) ?_
                try go_wp2
                go_roundg kj1
                case measure => have := HK1.out; have := HJ1.out; omega
                case rel => exact ⟨(ji11), (wrap64 (x4_1 + 1)), (by first | rfl | (simp; done) | (simp only [← hji11] <;> (first | rfl | simp)) | (simp [*]; done)), (by first | rfl | (simp; done) | (simp [*]; done)), H', ⟨by have := HK1.out; have := HJ1.out; omega⟩, ⟨by repeat (first | (with_reducible first | exact HB.out | apply below_alloc | apply pw_below_drewN | apply below_drew1) | exact HB.out)⟩⟩
              · rw [if_neg c6] at H
                exact absurd H (by simp)
            · rw [if_neg c5] at H
              exact absurd H (by simp)
          · replace c4 := Bool.eq_false_iff.mpr c4
            subst c4
            have H1 : (if (l0.length : Int) > 12 then (some 5000) else (some x3_1)) = some r := by rw [if_neg (show ¬ (false = true) by decide)] at H; exact H
            clear H
            have H := H1
            clear H1
            by_cases c15 : (l0.length : Int) > 12
            · rw [if_pos c15] at H
              have c15b0 : decide (12 < (l0.length : Int)) = true := decide_eq_true c15
              have c15b1 : decide (12 < l0.length) = true := decide_eq_true (by omega)
              clear c15
              obtain rfl := Option.some.inj H
              go_wp2
              go_ret
              exact ⟨by first | rfl | (simp [errW_none, errW_some] <;> rfl) | (simp [*, errW_none, errW_some] <;> rfl), by repeat (first | (with_reducible first | exact HB.out | apply below_alloc | apply pw_below_drewN | apply below_drew1) | exact HB.out)⟩
            · rw [if_neg c15] at H
              have c15b0 : decide (12 < (l0.length : Int)) = false := decide_eq_false c15
              have c15b1 : decide (12 < l0.length) = false := decide_eq_false (by omega)
              clear c15
              obtain rfl := Option.some.inj H
              go_wp2
              go_ret
              exact ⟨by first | rfl | (simp [errW_none, errW_some] <;> rfl) | (simp [*, errW_none, errW_some] <;> rfl), by repeat (first | (with_reducible first | exact HB.out | apply below_alloc | apply pw_below_drewN | apply below_drew1) | exact HB.out)⟩

end Go.Proofs.Ytnfnhjhnfdkinaa.PConvBack

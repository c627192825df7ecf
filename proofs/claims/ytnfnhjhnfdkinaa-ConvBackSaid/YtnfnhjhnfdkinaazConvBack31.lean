/-
  ConvBack: texts of this claim, put together by a program of this session. No conditions beyond what each lemma says.
-/
import Derived.Test.YtnfnhjhnfdkinaazConvBack30
namespace Go.Proofs.Ytnfnhjhnfdkinaa.PConvBack
open Go.RowKit Go.Proofs.YtnfnhjhnfdkinaaW.Mine Go.Proofs.YtnfnhjhnfdkinaaW.PrintWords Go.Proofs.YtnfnhjhnfdkinaaW.PrintLast Go.Proofs.YtnfnhjhnfdkinaaW.PrintMore
attribute [local go_sem] max2_int min2_int max_two min_two max_three min_three max_four min_four
set_option linter.unusedVariables false
set_option linter.unusedSimpArgs false
set_option maxHeartbeats 8000000 in
set_option maxRecDepth 100000 in
theorem own_6a (f1 : Int) (g0 : ByteArray) (g1 : Int) (f6 : List Ty) (f8 : List Vl) {A6 A7 A8 : Option Addr} {c6 c7 c8 : Nat} {w : World}  (h8 : ¬ f8.length = 1) :
    Calls Try.prog 82 #[.agg #[.int .i64 6, .int .i64 f1, .int .i64 0, .bool false, .string ⟨#[]⟩, .string g0, .int .i64 g1, .slice A6 (f6 : List Ty).length c6, .slice A7 ([] : List ByteArray).length c7, .slice A8 (f8 : List Vl).length c8]] w (OwOut ⟨6, f1, 0, false, ⟨#[]⟩, ⟨g0, g1⟩, f6, [], f8⟩ w) := by
  have kV := blk_new w (.cells #[.int .i64 6, .int .i64 f1, .int .i64 0, .bool false, .string ⟨#[]⟩, .string g0, .int .i64 g1, .slice A6 (f6 : List Ty).length c6, .slice A7 ([] : List ByteArray).length c7, .slice A8 (f8 : List Vl).length c8] 55)
  have b0 := below_alloc1 w (.cells #[.int .i64 6, .int .i64 f1, .int .i64 0, .bool false, .string ⟨#[]⟩, .string g0, .int .i64 g1, .slice A6 (f6 : List Ty).length c6, .slice A7 ([] : List ByteArray).length c7, .slice A8 (f8 : List Vl).length c8] 55)
  obtain ⟨⟨v0, v1, v2, v3, v4, v5, v6, v7, v8, v9⟩, _, lv⟩ := ten kV
  have B0 := Aside0.mk b0
  have mf8a : (((f8.length : Nat) : Int) == 1) = false := beq_eq_false_iff_ne.2 (by omega)
  have mf8b : (((f8.length : Nat) : Int) != 1) = true := by rw [bne, mf8a]; rfl
  have mf8c : decide ((((f8.length : Nat) : Int)) = 1) = false := decide_eq_false (by omega)
  clear kV b0
  go_enter Try.func82, Try.ntmps82
  go_wp2
  go_ret
  exact ⟨false, rfl, (fun h => absurd h (by decide)), B0.out⟩
set_option maxHeartbeats 8000000 in
set_option maxRecDepth 100000 in
theorem own_6b (f1 : Int) (g0 : ByteArray) (g1 : Int) (f6 : List Ty) {A6 A7 A8 : Option Addr} {c6 c7 c8 : Nat} {w : World} (y : Vl)  (hq : funB y = false) (hC8 : kVl.C w A8 1 [y]) :
    Calls Try.prog 82 #[.agg #[.int .i64 6, .int .i64 f1, .int .i64 0, .bool false, .string ⟨#[]⟩, .string g0, .int .i64 g1, .slice A6 (f6 : List Ty).length c6, .slice A7 ([] : List ByteArray).length c7, .slice A8 ([y] : List Vl).length c8]] w (OwOut ⟨6, f1, 0, false, ⟨#[]⟩, ⟨g0, g1⟩, f6, [], [y]⟩ w) := by
  obtain ⟨ad, X6, e6, X7, e7, X8, e8, hA, fx, x0, x1, x2, x3, x4, x5, x6, x7, x8, x9⟩ := velt (Kd.C_F heapVl hC8) 0 (Nat.lt_succ_self 0)
  rw [show ad.add (0 * 10) = ad from rfl] at x0 x1 x2 x3 x4 x5 x6 x7 x8 x9
  simp only [List.getElem_cons_zero] at fx x0 x1 x2 x3 x4 x5 x6 x7 x8 x9
  subst hA
  clear fx
  have kV := blk_new w (.cells #[.int .i64 6, .int .i64 f1, .int .i64 0, .bool false, .string ⟨#[]⟩, .string g0, .int .i64 g1, .slice A6 (f6 : List Ty).length c6, .slice A7 0 c7, .slice (some ad) 1 c8] 55)
  have b0 := below_alloc1 w (.cells #[.int .i64 6, .int .i64 f1, .int .i64 0, .bool false, .string ⟨#[]⟩, .string g0, .int .i64 g1, .slice A6 (f6 : List Ty).length c6, .slice A7 0 c7, .slice (some ad) 1 c8] 55)
  obtain ⟨⟨v0, v1, v2, v3, v4, v5, v6, v7, v8, v9⟩, _, lv⟩ := ten kV
  have B0 := Aside0.mk b0
  replace x0 := cell_up b0 x0
  replace x1 := cell_up b0 x1
  replace x2 := cell_up b0 x2
  replace x3 := cell_up b0 x3
  replace x4 := cell_up b0 x4
  replace x5 := cell_up b0 x5
  replace x6 := cell_up b0 x6
  replace x7 := cell_up b0 x7
  replace x8 := cell_up b0 x8
  replace x9 := cell_up b0 x9
  have KV := Aside0.mk kV
  clear kV b0
  go_enter Try.func82, Try.ntmps82
  go_wp2_with fail
  refine (rfun_c y).mono ?_
  rw [hq]
  rintro e_ w1 ⟨rfl, hb⟩
  have b1 := chain B0.out hb
  clear x0 x1 x2 x3 x4 x5 x6 x7 x8 x9
  go_wp2
  go_ret
  exact ⟨false, rfl, (fun h => absurd h (by decide)), b1⟩
set_option maxHeartbeats 8000000 in
set_option maxRecDepth 100000 in
theorem own_6c (f1 : Int) (g0 : ByteArray) (g1 : Int) (f6 : List Ty) {A6 A7 A8 : Option Addr} {c6 c7 c8 : Nat} {w : World} (y : Vl)  (hq : funB y = true) (hC8 : kVl.C w A8 1 [y]) (hC6 : kTy.C w A6 f6.length f6) (hl6 : f6.length * 80 ≤ 140737488351232) (o6 : ∀ y, y ∈ f6 → Okt y) (w6 : ∀ y, y ∈ f6 → Okw y) :
    Calls Try.prog 82 #[.agg #[.int .i64 6, .int .i64 f1, .int .i64 0, .bool false, .string ⟨#[]⟩, .string g0, .int .i64 g1, .slice A6 (f6 : List Ty).length c6, .slice A7 ([] : List ByteArray).length c7, .slice A8 ([y] : List Vl).length c8]] w (OwOut ⟨6, f1, 0, false, ⟨#[]⟩, ⟨g0, g1⟩, f6, [], [y]⟩ w) := by
  obtain ⟨ad, X6, e6, X7, e7, X8, e8, hA, fx, x0, x1, x2, x3, x4, x5, x6, x7, x8, x9⟩ := velt (Kd.C_F heapVl hC8) 0 (Nat.lt_succ_self 0)
  rw [show ad.add (0 * 10) = ad from rfl] at x0 x1 x2 x3 x4 x5 x6 x7 x8 x9
  simp only [List.getElem_cons_zero] at fx x0 x1 x2 x3 x4 x5 x6 x7 x8 x9
  subst hA
  clear fx
  have kV := blk_new w (.cells #[.int .i64 6, .int .i64 f1, .int .i64 0, .bool false, .string ⟨#[]⟩, .string g0, .int .i64 g1, .slice A6 (f6 : List Ty).length c6, .slice A7 0 c7, .slice (some ad) 1 c8] 55)
  have b0 := below_alloc1 w (.cells #[.int .i64 6, .int .i64 f1, .int .i64 0, .bool false, .string ⟨#[]⟩, .string g0, .int .i64 g1, .slice A6 (f6 : List Ty).length c6, .slice A7 0 c7, .slice (some ad) 1 c8] 55)
  obtain ⟨⟨v0, v1, v2, v3, v4, v5, v6, v7, v8, v9⟩, _, lv⟩ := ten kV
  have B0 := Aside0.mk b0
  replace x0 := cell_up b0 x0
  replace x1 := cell_up b0 x1
  replace x2 := cell_up b0 x2
  replace x3 := cell_up b0 x3
  replace x4 := cell_up b0 x4
  replace x5 := cell_up b0 x5
  replace x6 := cell_up b0 x6
  replace x7 := cell_up b0 x7
  replace x8 := cell_up b0 x8
  replace x9 := cell_up b0 x9
  have KV := Aside0.mk kV
  have HN := Aside0.mk (own_no (x := ⟨6, f1, 0, false, ⟨#[]⟩, ⟨g0, g1⟩, f6, [], [y]⟩) (by simp) (by simp))
  have hC6 := Kd.C_below hC6 b0
  clear kV b0
  go_enter Try.func82, Try.ntmps82
  go_wp2_with fail
  refine (rfun_c y).mono ?_
  rw [hq]
  rintro e_ w1 ⟨rfl, hb⟩
  have b1 := chain B0.out hb
  clear x0 x1 x2 x3 x4 x5 x6 x7 x8 x9
  replace kV := blk_up hb KV.out
  replace hC6 := Kd.C_below hC6 hb
  clear hb
  obtain ⟨⟨v0, v1, v2, v3, v4, v5, v6, v7, v8, v9⟩, _, lv⟩ := ten kV
  go_wp2_with fail
  go_loopg [3] f6.length (fun kq v3 w' => ∃ i : Nat, v3 = .int .i64 i ∧ kq + i = f6.length ∧ Below w1.heap.size w1 w')
  case atStart => exact ⟨0, rfl, rfl, Below.refl _ _⟩
  case round =>
    obtain ⟨i, rfl, hk, br⟩ := hrel
    replace kV := blk_up br kV
    replace hC6 := Kd.C_below hC6 br
    have b2 := chain b1 br
    have BR := Aside0.mk br
    clear v0 v1 v2 v3 v4 v5 v6 v7 v8 v9 lv br b1
    obtain ⟨⟨v0, v1, v2, v3, v4, v5, v6, v7, v8, v9⟩, _, lv⟩ := ten kV
    by_cases hi : i < f6.length
    · obtain ⟨k1, rfl⟩ : ∃ k1, gk = k1 + 1 := ⟨gk - 1, by omega⟩
      have ci : decide ((i : Int) < (f6.length : Int)) = true := decide_eq_true (by omega)
      have ci2 : decide (i < f6.length) = true := decide_eq_true hi
      have i0 : (0 : Int) ≤ (i : Int) := by omega
      have i1 : (i : Int) < (f6.length : Int) := by omega
      have hm := List.getElem_mem hi
      obtain ⟨bd, Y3, g3, Y4, g4, hB, hr, y0, y1, y2, y3, y4⟩ := telt hC6 i hi
      subst hB
      obtain ⟨r1, _, c1⟩ := lright_c (o6 _ hm) (w6 _ hm)
      have HK := Aside0.mk hk
      clear hk hm
      generalize f6[i] = z at *
      go_wp2_with fail
      refine (c1 hr).mono ?_
      rintro e_ w3 ⟨rfl, hb⟩
      have b3 := chain b2 hb
      replace kV := blk_up hb kV
      clear v0 v1 v2 v3 v4 v5 v6 v7 v8 v9 lv b2
      obtain ⟨⟨v0, v1, v2, v3, v4, v5, v6, v7, v8, v9⟩, _, lv⟩ := ten kV
      replace y0 := cell_up hb y0
      cases r1 with
      | false =>
        go_wp2
        go_ret
        exact ⟨false, rfl, (fun h => absurd h (by decide)), b3⟩
      | true =>
        by_cases h7 : z.f0 = 7
        · have p7a : (z.f0 == 7) = true := beq_iff_eq.2 h7
          have p7b : (z.f0 != 7) = false := by rw [bne, p7a]; rfl
          have hw2 : wrap64 ((i : Int) + 1) = (i : Int) + 1 := wrap_ok (by omega) (by omega)
          clear h7
          go_wp2
          go_roundg k1
          case measure => omega
          case rel => exact ⟨i + 1, (by first | rfl | (simp; done) | (push_cast; rfl)), by have := HK.out; omega, chain BR.out hb⟩
        · have p7a : (z.f0 == 7) = false := beq_eq_false_iff_ne.2 h7
          have p7b : (z.f0 != 7) = true := by rw [bne, p7a]; rfl
          clear h7
          go_wp2
          go_ret
          exact ⟨false, rfl, (fun h => absurd h (by decide)), b3⟩
    · have cn : decide ((i : Int) < (f6.length : Int)) = false := decide_eq_false (by omega)
      have cn2 : decide (i < f6.length) = false := decide_eq_false hi
      clear hi hk
      go_wp2
      all_goals (go_ret; exact ⟨_, rfl, (fun _ => HN.out), b2⟩)
set_option maxHeartbeats 8000000 in
set_option maxRecDepth 100000 in
theorem own_7a (f1 : Int) (f2 : Int) (f3 : Bool) (f6 : List Ty) (f8 : List Vl) {A6 A7 A8 : Option Addr} {c6 c7 c8 : Nat} {w : World}  (h8 : ¬ f8.length = 1) :
    Calls Try.prog 82 #[.agg #[.int .i64 7, .int .i64 f1, .int .i64 f2, .bool f3, .string ⟨#[]⟩, .string ⟨#[]⟩, .int .i64 0, .slice A6 (f6 : List Ty).length c6, .slice A7 ([] : List ByteArray).length c7, .slice A8 (f8 : List Vl).length c8]] w (OwOut ⟨7, f1, f2, f3, ⟨#[]⟩, ⟨⟨#[]⟩, 0⟩, f6, [], f8⟩ w) := by
  have kV := blk_new w (.cells #[.int .i64 7, .int .i64 f1, .int .i64 f2, .bool f3, .string ⟨#[]⟩, .string ⟨#[]⟩, .int .i64 0, .slice A6 (f6 : List Ty).length c6, .slice A7 ([] : List ByteArray).length c7, .slice A8 (f8 : List Vl).length c8] 55)
  have b0 := below_alloc1 w (.cells #[.int .i64 7, .int .i64 f1, .int .i64 f2, .bool f3, .string ⟨#[]⟩, .string ⟨#[]⟩, .int .i64 0, .slice A6 (f6 : List Ty).length c6, .slice A7 ([] : List ByteArray).length c7, .slice A8 (f8 : List Vl).length c8] 55)
  obtain ⟨⟨v0, v1, v2, v3, v4, v5, v6, v7, v8, v9⟩, _, lv⟩ := ten kV
  have B0 := Aside0.mk b0
  have mf8a : (((f8.length : Nat) : Int) == 1) = false := beq_eq_false_iff_ne.2 (by omega)
  have mf8b : (((f8.length : Nat) : Int) != 1) = true := by rw [bne, mf8a]; rfl
  have mf8c : decide ((((f8.length : Nat) : Int)) = 1) = false := decide_eq_false (by omega)
  clear kV b0
  go_enter Try.func82, Try.ntmps82
  go_wp2
  go_ret
  exact ⟨false, rfl, (fun h => absurd h (by decide)), B0.out⟩
set_option maxHeartbeats 8000000 in
set_option maxRecDepth 100000 in
theorem own_7b (f1 : Int) (f2 : Int) (f3 : Bool) (f6 : List Ty) {A6 A7 A8 : Option Addr} {c6 c7 c8 : Nat} {w : World} (y : Vl)  (hq : funB y = false) (hC8 : kVl.C w A8 1 [y]) :
    Calls Try.prog 82 #[.agg #[.int .i64 7, .int .i64 f1, .int .i64 f2, .bool f3, .string ⟨#[]⟩, .string ⟨#[]⟩, .int .i64 0, .slice A6 (f6 : List Ty).length c6, .slice A7 ([] : List ByteArray).length c7, .slice A8 ([y] : List Vl).length c8]] w (OwOut ⟨7, f1, f2, f3, ⟨#[]⟩, ⟨⟨#[]⟩, 0⟩, f6, [], [y]⟩ w) := by
  obtain ⟨ad, X6, e6, X7, e7, X8, e8, hA, fx, x0, x1, x2, x3, x4, x5, x6, x7, x8, x9⟩ := velt (Kd.C_F heapVl hC8) 0 (Nat.lt_succ_self 0)
  rw [show ad.add (0 * 10) = ad from rfl] at x0 x1 x2 x3 x4 x5 x6 x7 x8 x9
  simp only [List.getElem_cons_zero] at fx x0 x1 x2 x3 x4 x5 x6 x7 x8 x9
  subst hA
  clear fx
  have kV := blk_new w (.cells #[.int .i64 7, .int .i64 f1, .int .i64 f2, .bool f3, .string ⟨#[]⟩, .string ⟨#[]⟩, .int .i64 0, .slice A6 (f6 : List Ty).length c6, .slice A7 0 c7, .slice (some ad) 1 c8] 55)
  have b0 := below_alloc1 w (.cells #[.int .i64 7, .int .i64 f1, .int .i64 f2, .bool f3, .string ⟨#[]⟩, .string ⟨#[]⟩, .int .i64 0, .slice A6 (f6 : List Ty).length c6, .slice A7 0 c7, .slice (some ad) 1 c8] 55)
  obtain ⟨⟨v0, v1, v2, v3, v4, v5, v6, v7, v8, v9⟩, _, lv⟩ := ten kV
  have B0 := Aside0.mk b0
  replace x0 := cell_up b0 x0
  replace x1 := cell_up b0 x1
  replace x2 := cell_up b0 x2
  replace x3 := cell_up b0 x3
  replace x4 := cell_up b0 x4
  replace x5 := cell_up b0 x5
  replace x6 := cell_up b0 x6
  replace x7 := cell_up b0 x7
  replace x8 := cell_up b0 x8
  replace x9 := cell_up b0 x9
  have KV := Aside0.mk kV
  clear kV b0
  go_enter Try.func82, Try.ntmps82
  go_wp2_with fail
  refine (rfun_c y).mono ?_
  rw [hq]
  rintro e_ w1 ⟨rfl, hb⟩
  have b1 := chain B0.out hb
  clear x0 x1 x2 x3 x4 x5 x6 x7 x8 x9
  go_wp2
  go_ret
  exact ⟨false, rfl, (fun h => absurd h (by decide)), b1⟩
set_option maxHeartbeats 8000000 in
set_option maxRecDepth 100000 in
theorem own_7c (f1 : Int) (f2 : Int) (f3 : Bool) (f6 : List Ty) {A6 A7 A8 : Option Addr} {c6 c7 c8 : Nat} {w : World} (y : Vl)  (hq : funB y = true) (hC8 : kVl.C w A8 1 [y]) (hC6 : kTy.C w A6 f6.length f6) (hl6 : f6.length * 80 ≤ 140737488351232) (o6 : ∀ y, y ∈ f6 → Okt y) (w6 : ∀ y, y ∈ f6 → Okw y) :
    Calls Try.prog 82 #[.agg #[.int .i64 7, .int .i64 f1, .int .i64 f2, .bool f3, .string ⟨#[]⟩, .string ⟨#[]⟩, .int .i64 0, .slice A6 (f6 : List Ty).length c6, .slice A7 ([] : List ByteArray).length c7, .slice A8 ([y] : List Vl).length c8]] w (OwOut ⟨7, f1, f2, f3, ⟨#[]⟩, ⟨⟨#[]⟩, 0⟩, f6, [], [y]⟩ w) := by
  obtain ⟨ad, X6, e6, X7, e7, X8, e8, hA, fx, x0, x1, x2, x3, x4, x5, x6, x7, x8, x9⟩ := velt (Kd.C_F heapVl hC8) 0 (Nat.lt_succ_self 0)
  rw [show ad.add (0 * 10) = ad from rfl] at x0 x1 x2 x3 x4 x5 x6 x7 x8 x9
  simp only [List.getElem_cons_zero] at fx x0 x1 x2 x3 x4 x5 x6 x7 x8 x9
  subst hA
  clear fx
  have kV := blk_new w (.cells #[.int .i64 7, .int .i64 f1, .int .i64 f2, .bool f3, .string ⟨#[]⟩, .string ⟨#[]⟩, .int .i64 0, .slice A6 (f6 : List Ty).length c6, .slice A7 0 c7, .slice (some ad) 1 c8] 55)
  have b0 := below_alloc1 w (.cells #[.int .i64 7, .int .i64 f1, .int .i64 f2, .bool f3, .string ⟨#[]⟩, .string ⟨#[]⟩, .int .i64 0, .slice A6 (f6 : List Ty).length c6, .slice A7 0 c7, .slice (some ad) 1 c8] 55)
  obtain ⟨⟨v0, v1, v2, v3, v4, v5, v6, v7, v8, v9⟩, _, lv⟩ := ten kV
  have B0 := Aside0.mk b0
  replace x0 := cell_up b0 x0
  replace x1 := cell_up b0 x1
  replace x2 := cell_up b0 x2
  replace x3 := cell_up b0 x3
  replace x4 := cell_up b0 x4
  replace x5 := cell_up b0 x5
  replace x6 := cell_up b0 x6
  replace x7 := cell_up b0 x7
  replace x8 := cell_up b0 x8
  replace x9 := cell_up b0 x9
  have KV := Aside0.mk kV
  have HN := Aside0.mk (own_no (x := ⟨7, f1, f2, f3, ⟨#[]⟩, ⟨⟨#[]⟩, 0⟩, f6, [], [y]⟩) (by simp) (by simp))
  have hC6 := Kd.C_below hC6 b0
  clear kV b0
  go_enter Try.func82, Try.ntmps82
  go_wp2_with fail
  refine (rfun_c y).mono ?_
  rw [hq]
  rintro e_ w1 ⟨rfl, hb⟩
  have b1 := chain B0.out hb
  clear x0 x1 x2 x3 x4 x5 x6 x7 x8 x9
  replace kV := blk_up hb KV.out
  replace hC6 := Kd.C_below hC6 hb
  clear hb
  obtain ⟨⟨v0, v1, v2, v3, v4, v5, v6, v7, v8, v9⟩, _, lv⟩ := ten kV
  go_wp2_with fail
  go_loopg [3] f6.length (fun kq v3 w' => ∃ i : Nat, v3 = .int .i64 i ∧ kq + i = f6.length ∧ Below w1.heap.size w1 w')
  case atStart => exact ⟨0, rfl, rfl, Below.refl _ _⟩
  case round =>
    obtain ⟨i, rfl, hk, br⟩ := hrel
    replace kV := blk_up br kV
    replace hC6 := Kd.C_below hC6 br
    have b2 := chain b1 br
    have BR := Aside0.mk br
    clear v0 v1 v2 v3 v4 v5 v6 v7 v8 v9 lv br b1
    obtain ⟨⟨v0, v1, v2, v3, v4, v5, v6, v7, v8, v9⟩, _, lv⟩ := ten kV
    by_cases hi : i < f6.length
    · obtain ⟨k1, rfl⟩ : ∃ k1, gk = k1 + 1 := ⟨gk - 1, by omega⟩
      have ci : decide ((i : Int) < (f6.length : Int)) = true := decide_eq_true (by omega)
      have ci2 : decide (i < f6.length) = true := decide_eq_true hi
      have i0 : (0 : Int) ≤ (i : Int) := by omega
      have i1 : (i : Int) < (f6.length : Int) := by omega
      have hm := List.getElem_mem hi
      obtain ⟨bd, Y3, g3, Y4, g4, hB, hr, y0, y1, y2, y3, y4⟩ := telt hC6 i hi
      subst hB
      obtain ⟨r1, _, c1⟩ := lright_c (o6 _ hm) (w6 _ hm)
      have HK := Aside0.mk hk
      clear hk hm
      generalize f6[i] = z at *
      go_wp2_with fail
      refine (c1 hr).mono ?_
      rintro e_ w3 ⟨rfl, hb⟩
      have b3 := chain b2 hb
      replace kV := blk_up hb kV
      clear v0 v1 v2 v3 v4 v5 v6 v7 v8 v9 lv b2
      obtain ⟨⟨v0, v1, v2, v3, v4, v5, v6, v7, v8, v9⟩, _, lv⟩ := ten kV
      replace y0 := cell_up hb y0
      cases r1 with
      | false =>
        go_wp2
        go_ret
        exact ⟨false, rfl, (fun h => absurd h (by decide)), b3⟩
      | true =>
        by_cases h7 : z.f0 = 7
        · have p7a : (z.f0 == 7) = true := beq_iff_eq.2 h7
          have p7b : (z.f0 != 7) = false := by rw [bne, p7a]; rfl
          have hw2 : wrap64 ((i : Int) + 1) = (i : Int) + 1 := wrap_ok (by omega) (by omega)
          clear h7
          go_wp2
          go_roundg k1
          case measure => omega
          case rel => exact ⟨i + 1, (by first | rfl | (simp; done) | (push_cast; rfl)), by have := HK.out; omega, chain BR.out hb⟩
        · have p7a : (z.f0 == 7) = false := beq_eq_false_iff_ne.2 h7
          have p7b : (z.f0 != 7) = true := by rw [bne, p7a]; rfl
          clear h7
          go_wp2
          go_ret
          exact ⟨false, rfl, (fun h => absurd h (by decide)), b3⟩
    · have cn : decide ((i : Int) < (f6.length : Int)) = false := decide_eq_false (by omega)
      have cn2 : decide (i < f6.length) = false := decide_eq_false hi
      clear hi hk
      go_wp2
      all_goals (go_ret; exact ⟨_, rfl, (fun _ => HN.out), b2⟩)
set_option maxHeartbeats 8000000 in
set_option maxRecDepth 100000 in
theorem own_oa (f0 : Int) (f1 : Int) (f6 : List Ty) (f8 : List Vl) {A6 A7 A8 : Option Addr} {c6 c7 c8 : Nat} {w : World} (n1 : ¬ f0 = 1) (n2 : ¬ f0 = 2) (n3 : ¬ f0 = 3) (n4 : ¬ f0 = 4) (n5 : ¬ f0 = 5) (n6 : ¬ f0 = 6) (n7 : ¬ f0 = 7) (n8 : ¬ f0 = 8) (h8 : ¬ f8.length = 1) :
    Calls Try.prog 82 #[.agg #[.int .i64 f0, .int .i64 f1, .int .i64 0, .bool false, .string ⟨#[]⟩, .string ⟨#[]⟩, .int .i64 0, .slice A6 (f6 : List Ty).length c6, .slice A7 ([] : List ByteArray).length c7, .slice A8 (f8 : List Vl).length c8]] w (OwOut ⟨f0, f1, 0, false, ⟨#[]⟩, ⟨⟨#[]⟩, 0⟩, f6, [], f8⟩ w) := by
  have kV := blk_new w (.cells #[.int .i64 f0, .int .i64 f1, .int .i64 0, .bool false, .string ⟨#[]⟩, .string ⟨#[]⟩, .int .i64 0, .slice A6 (f6 : List Ty).length c6, .slice A7 ([] : List ByteArray).length c7, .slice A8 (f8 : List Vl).length c8] 55)
  have b0 := below_alloc1 w (.cells #[.int .i64 f0, .int .i64 f1, .int .i64 0, .bool false, .string ⟨#[]⟩, .string ⟨#[]⟩, .int .i64 0, .slice A6 (f6 : List Ty).length c6, .slice A7 ([] : List ByteArray).length c7, .slice A8 (f8 : List Vl).length c8] 55)
  obtain ⟨⟨v0, v1, v2, v3, v4, v5, v6, v7, v8, v9⟩, _, lv⟩ := ten kV
  have B0 := Aside0.mk b0
  have d1b : (f0 == 1) = false := beq_eq_false_iff_ne.2 n1
  have d1c : (f0 != 1) = true := by rw [bne, d1b]; rfl
  have d1a : decide (f0 = 1) = false := decide_eq_false n1
  have d2b : (f0 == 2) = false := beq_eq_false_iff_ne.2 n2
  have d2c : (f0 != 2) = true := by rw [bne, d2b]; rfl
  have d2a : decide (f0 = 2) = false := decide_eq_false n2
  have d3b : (f0 == 3) = false := beq_eq_false_iff_ne.2 n3
  have d3c : (f0 != 3) = true := by rw [bne, d3b]; rfl
  have d3a : decide (f0 = 3) = false := decide_eq_false n3
  have d4b : (f0 == 4) = false := beq_eq_false_iff_ne.2 n4
  have d4c : (f0 != 4) = true := by rw [bne, d4b]; rfl
  have d4a : decide (f0 = 4) = false := decide_eq_false n4
  have d5b : (f0 == 5) = false := beq_eq_false_iff_ne.2 n5
  have d5c : (f0 != 5) = true := by rw [bne, d5b]; rfl
  have d5a : decide (f0 = 5) = false := decide_eq_false n5
  have d6b : (f0 == 6) = false := beq_eq_false_iff_ne.2 n6
  have d6c : (f0 != 6) = true := by rw [bne, d6b]; rfl
  have d6a : decide (f0 = 6) = false := decide_eq_false n6
  have d7b : (f0 == 7) = false := beq_eq_false_iff_ne.2 n7
  have d7c : (f0 != 7) = true := by rw [bne, d7b]; rfl
  have d7a : decide (f0 = 7) = false := decide_eq_false n7
  have d8b : (f0 == 8) = false := beq_eq_false_iff_ne.2 n8
  have d8c : (f0 != 8) = true := by rw [bne, d8b]; rfl
  have d8a : decide (f0 = 8) = false := decide_eq_false n8
  have mf8a : (((f8.length : Nat) : Int) == 1) = false := beq_eq_false_iff_ne.2 (by omega)
  have mf8b : (((f8.length : Nat) : Int) != 1) = true := by rw [bne, mf8a]; rfl
  have mf8c : decide ((((f8.length : Nat) : Int)) = 1) = false := decide_eq_false (by omega)
  clear kV b0
  go_enter Try.func82, Try.ntmps82
  go_wp2
  go_ret
  exact ⟨false, rfl, (fun h => absurd h (by decide)), B0.out⟩
set_option maxHeartbeats 8000000 in
set_option maxRecDepth 100000 in
theorem own_ob (f0 : Int) (f1 : Int) (f6 : List Ty) {A6 A7 A8 : Option Addr} {c6 c7 c8 : Nat} {w : World} (y : Vl) (n1 : ¬ f0 = 1) (n2 : ¬ f0 = 2) (n3 : ¬ f0 = 3) (n4 : ¬ f0 = 4) (n5 : ¬ f0 = 5) (n6 : ¬ f0 = 6) (n7 : ¬ f0 = 7) (n8 : ¬ f0 = 8) (hq : funB y = false) (hC8 : kVl.C w A8 1 [y]) :
    Calls Try.prog 82 #[.agg #[.int .i64 f0, .int .i64 f1, .int .i64 0, .bool false, .string ⟨#[]⟩, .string ⟨#[]⟩, .int .i64 0, .slice A6 (f6 : List Ty).length c6, .slice A7 ([] : List ByteArray).length c7, .slice A8 ([y] : List Vl).length c8]] w (OwOut ⟨f0, f1, 0, false, ⟨#[]⟩, ⟨⟨#[]⟩, 0⟩, f6, [], [y]⟩ w) := by
  obtain ⟨ad, X6, e6, X7, e7, X8, e8, hA, fx, x0, x1, x2, x3, x4, x5, x6, x7, x8, x9⟩ := velt (Kd.C_F heapVl hC8) 0 (Nat.lt_succ_self 0)
  rw [show ad.add (0 * 10) = ad from rfl] at x0 x1 x2 x3 x4 x5 x6 x7 x8 x9
  simp only [List.getElem_cons_zero] at fx x0 x1 x2 x3 x4 x5 x6 x7 x8 x9
  subst hA
  clear fx
  have kV := blk_new w (.cells #[.int .i64 f0, .int .i64 f1, .int .i64 0, .bool false, .string ⟨#[]⟩, .string ⟨#[]⟩, .int .i64 0, .slice A6 (f6 : List Ty).length c6, .slice A7 0 c7, .slice (some ad) 1 c8] 55)
  have b0 := below_alloc1 w (.cells #[.int .i64 f0, .int .i64 f1, .int .i64 0, .bool false, .string ⟨#[]⟩, .string ⟨#[]⟩, .int .i64 0, .slice A6 (f6 : List Ty).length c6, .slice A7 0 c7, .slice (some ad) 1 c8] 55)
  obtain ⟨⟨v0, v1, v2, v3, v4, v5, v6, v7, v8, v9⟩, _, lv⟩ := ten kV
  have B0 := Aside0.mk b0
  have d1b : (f0 == 1) = false := beq_eq_false_iff_ne.2 n1
  have d1c : (f0 != 1) = true := by rw [bne, d1b]; rfl
  have d1a : decide (f0 = 1) = false := decide_eq_false n1
  have d2b : (f0 == 2) = false := beq_eq_false_iff_ne.2 n2
  have d2c : (f0 != 2) = true := by rw [bne, d2b]; rfl
  have d2a : decide (f0 = 2) = false := decide_eq_false n2
  have d3b : (f0 == 3) = false := beq_eq_false_iff_ne.2 n3
  have d3c : (f0 != 3) = true := by rw [bne, d3b]; rfl
  have d3a : decide (f0 = 3) = false := decide_eq_false n3
  have d4b : (f0 == 4) = false := beq_eq_false_iff_ne.2 n4
  have d4c : (f0 != 4) = true := by rw [bne, d4b]; rfl
  have d4a : decide (f0 = 4) = false := decide_eq_false n4
  have d5b : (f0 == 5) = false := beq_eq_false_iff_ne.2 n5
  have d5c : (f0 != 5) = true := by rw [bne, d5b]; rfl
  have d5a : decide (f0 = 5) = false := decide_eq_false n5
  have d6b : (f0 == 6) = false := beq_eq_false_iff_ne.2 n6
  have d6c : (f0 != 6) = true := by rw [bne, d6b]; rfl
  have d6a : decide (f0 = 6) = false := decide_eq_false n6
  have d7b : (f0 == 7) = false := beq_eq_false_iff_ne.2 n7
  have d7c : (f0 != 7) = true := by rw [bne, d7b]; rfl
  have d7a : decide (f0 = 7) = false := decide_eq_false n7
  have d8b : (f0 == 8) = false := beq_eq_false_iff_ne.2 n8
  have d8c : (f0 != 8) = true := by rw [bne, d8b]; rfl
  have d8a : decide (f0 = 8) = false := decide_eq_false n8
  replace x0 := cell_up b0 x0
  replace x1 := cell_up b0 x1
  replace x2 := cell_up b0 x2
  replace x3 := cell_up b0 x3
  replace x4 := cell_up b0 x4
  replace x5 := cell_up b0 x5
  replace x6 := cell_up b0 x6
  replace x7 := cell_up b0 x7
  replace x8 := cell_up b0 x8
  replace x9 := cell_up b0 x9
  have KV := Aside0.mk kV
  clear kV b0
  go_enter Try.func82, Try.ntmps82
  go_wp2_with fail
  refine (rfun_c y).mono ?_
  rw [hq]
  rintro e_ w1 ⟨rfl, hb⟩
  have b1 := chain B0.out hb
  clear x0 x1 x2 x3 x4 x5 x6 x7 x8 x9
  go_wp2
  go_ret
  exact ⟨false, rfl, (fun h => absurd h (by decide)), b1⟩
set_option maxHeartbeats 8000000 in
set_option maxRecDepth 100000 in
theorem own_oc (f0 : Int) (f1 : Int) (f6 : List Ty) {A6 A7 A8 : Option Addr} {c6 c7 c8 : Nat} {w : World} (y : Vl) (n1 : ¬ f0 = 1) (n2 : ¬ f0 = 2) (n3 : ¬ f0 = 3) (n4 : ¬ f0 = 4) (n5 : ¬ f0 = 5) (n6 : ¬ f0 = 6) (n7 : ¬ f0 = 7) (n8 : ¬ f0 = 8) (hq : funB y = true) (hC8 : kVl.C w A8 1 [y]) (hC6 : kTy.C w A6 f6.length f6) (hl6 : f6.length * 80 ≤ 140737488351232) (o6 : ∀ y, y ∈ f6 → Okt y) (w6 : ∀ y, y ∈ f6 → Okw y) :
    Calls Try.prog 82 #[.agg #[.int .i64 f0, .int .i64 f1, .int .i64 0, .bool false, .string ⟨#[]⟩, .string ⟨#[]⟩, .int .i64 0, .slice A6 (f6 : List Ty).length c6, .slice A7 ([] : List ByteArray).length c7, .slice A8 ([y] : List Vl).length c8]] w (OwOut ⟨f0, f1, 0, false, ⟨#[]⟩, ⟨⟨#[]⟩, 0⟩, f6, [], [y]⟩ w) := by
  obtain ⟨ad, X6, e6, X7, e7, X8, e8, hA, fx, x0, x1, x2, x3, x4, x5, x6, x7, x8, x9⟩ := velt (Kd.C_F heapVl hC8) 0 (Nat.lt_succ_self 0)
  rw [show ad.add (0 * 10) = ad from rfl] at x0 x1 x2 x3 x4 x5 x6 x7 x8 x9
  simp only [List.getElem_cons_zero] at fx x0 x1 x2 x3 x4 x5 x6 x7 x8 x9
  subst hA
  clear fx
  have kV := blk_new w (.cells #[.int .i64 f0, .int .i64 f1, .int .i64 0, .bool false, .string ⟨#[]⟩, .string ⟨#[]⟩, .int .i64 0, .slice A6 (f6 : List Ty).length c6, .slice A7 0 c7, .slice (some ad) 1 c8] 55)
  have b0 := below_alloc1 w (.cells #[.int .i64 f0, .int .i64 f1, .int .i64 0, .bool false, .string ⟨#[]⟩, .string ⟨#[]⟩, .int .i64 0, .slice A6 (f6 : List Ty).length c6, .slice A7 0 c7, .slice (some ad) 1 c8] 55)
  obtain ⟨⟨v0, v1, v2, v3, v4, v5, v6, v7, v8, v9⟩, _, lv⟩ := ten kV
  have B0 := Aside0.mk b0
  have d1b : (f0 == 1) = false := beq_eq_false_iff_ne.2 n1
  have d1c : (f0 != 1) = true := by rw [bne, d1b]; rfl
  have d1a : decide (f0 = 1) = false := decide_eq_false n1
  have d2b : (f0 == 2) = false := beq_eq_false_iff_ne.2 n2
  have d2c : (f0 != 2) = true := by rw [bne, d2b]; rfl
  have d2a : decide (f0 = 2) = false := decide_eq_false n2
  have d3b : (f0 == 3) = false := beq_eq_false_iff_ne.2 n3
  have d3c : (f0 != 3) = true := by rw [bne, d3b]; rfl
  have d3a : decide (f0 = 3) = false := decide_eq_false n3
  have d4b : (f0 == 4) = false := beq_eq_false_iff_ne.2 n4
  have d4c : (f0 != 4) = true := by rw [bne, d4b]; rfl
  have d4a : decide (f0 = 4) = false := decide_eq_false n4
  have d5b : (f0 == 5) = false := beq_eq_false_iff_ne.2 n5
  have d5c : (f0 != 5) = true := by rw [bne, d5b]; rfl
  have d5a : decide (f0 = 5) = false := decide_eq_false n5
  have d6b : (f0 == 6) = false := beq_eq_false_iff_ne.2 n6
  have d6c : (f0 != 6) = true := by rw [bne, d6b]; rfl
  have d6a : decide (f0 = 6) = false := decide_eq_false n6
  have d7b : (f0 == 7) = false := beq_eq_false_iff_ne.2 n7
  have d7c : (f0 != 7) = true := by rw [bne, d7b]; rfl
  have d7a : decide (f0 = 7) = false := decide_eq_false n7
  have d8b : (f0 == 8) = false := beq_eq_false_iff_ne.2 n8
  have d8c : (f0 != 8) = true := by rw [bne, d8b]; rfl
  have d8a : decide (f0 = 8) = false := decide_eq_false n8
  replace x0 := cell_up b0 x0
  replace x1 := cell_up b0 x1
  replace x2 := cell_up b0 x2
  replace x3 := cell_up b0 x3
  replace x4 := cell_up b0 x4
  replace x5 := cell_up b0 x5
  replace x6 := cell_up b0 x6
  replace x7 := cell_up b0 x7
  replace x8 := cell_up b0 x8
  replace x9 := cell_up b0 x9
  have KV := Aside0.mk kV
  have HN := Aside0.mk (own_no (x := ⟨f0, f1, 0, false, ⟨#[]⟩, ⟨⟨#[]⟩, 0⟩, f6, [], [y]⟩) n4 n8)
  have hC6 := Kd.C_below hC6 b0
  clear kV b0
  go_enter Try.func82, Try.ntmps82
  go_wp2_with fail
  refine (rfun_c y).mono ?_
  rw [hq]
  rintro e_ w1 ⟨rfl, hb⟩
  have b1 := chain B0.out hb
  clear x0 x1 x2 x3 x4 x5 x6 x7 x8 x9
  replace kV := blk_up hb KV.out
  replace hC6 := Kd.C_below hC6 hb
  clear hb
  obtain ⟨⟨v0, v1, v2, v3, v4, v5, v6, v7, v8, v9⟩, _, lv⟩ := ten kV
  go_wp2_with fail
  go_loopg [3] f6.length (fun kq v3 w' => ∃ i : Nat, v3 = .int .i64 i ∧ kq + i = f6.length ∧ Below w1.heap.size w1 w')
  case atStart => exact ⟨0, rfl, rfl, Below.refl _ _⟩
  case round =>
    obtain ⟨i, rfl, hk, br⟩ := hrel
    replace kV := blk_up br kV
    replace hC6 := Kd.C_below hC6 br
    have b2 := chain b1 br
    have BR := Aside0.mk br
    clear v0 v1 v2 v3 v4 v5 v6 v7 v8 v9 lv br b1
    obtain ⟨⟨v0, v1, v2, v3, v4, v5, v6, v7, v8, v9⟩, _, lv⟩ := ten kV
    by_cases hi : i < f6.length
    · obtain ⟨k1, rfl⟩ : ∃ k1, gk = k1 + 1 := ⟨gk - 1, by omega⟩
      have ci : decide ((i : Int) < (f6.length : Int)) = true := decide_eq_true (by omega)
      have ci2 : decide (i < f6.length) = true := decide_eq_true hi
      have i0 : (0 : Int) ≤ (i : Int) := by omega
      have i1 : (i : Int) < (f6.length : Int) := by omega
      have hm := List.getElem_mem hi
      obtain ⟨bd, Y3, g3, Y4, g4, hB, hr, y0, y1, y2, y3, y4⟩ := telt hC6 i hi
      subst hB
      obtain ⟨r1, _, c1⟩ := lright_c (o6 _ hm) (w6 _ hm)
      have HK := Aside0.mk hk
      clear hk hm
      generalize f6[i] = z at *
      go_wp2_with fail
      refine (c1 hr).mono ?_
      rintro e_ w3 ⟨rfl, hb⟩
      have b3 := chain b2 hb
      replace kV := blk_up hb kV
      clear v0 v1 v2 v3 v4 v5 v6 v7 v8 v9 lv b2
      obtain ⟨⟨v0, v1, v2, v3, v4, v5, v6, v7, v8, v9⟩, _, lv⟩ := ten kV
      replace y0 := cell_up hb y0
      cases r1 with
      | false =>
        go_wp2
        go_ret
        exact ⟨false, rfl, (fun h => absurd h (by decide)), b3⟩
      | true =>
        by_cases h7 : z.f0 = 7
        · have p7a : (z.f0 == 7) = true := beq_iff_eq.2 h7
          have p7b : (z.f0 != 7) = false := by rw [bne, p7a]; rfl
          have hw2 : wrap64 ((i : Int) + 1) = (i : Int) + 1 := wrap_ok (by omega) (by omega)
          clear h7
          go_wp2
          go_roundg k1
          case measure => omega
          case rel => exact ⟨i + 1, (by first | rfl | (simp; done) | (push_cast; rfl)), by have := HK.out; omega, chain BR.out hb⟩
        · have p7a : (z.f0 == 7) = false := beq_eq_false_iff_ne.2 h7
          have p7b : (z.f0 != 7) = true := by rw [bne, p7a]; rfl
          clear h7
          go_wp2
          go_ret
          exact ⟨false, rfl, (fun h => absurd h (by decide)), b3⟩
    · have cn : decide ((i : Int) < (f6.length : Int)) = false := decide_eq_false (by omega)
      have cn2 : decide (i < f6.length) = false := decide_eq_false hi
      clear hi hk
      go_wp2
      all_goals (go_ret; exact ⟨_, rfl, (fun _ => HN.out), b2⟩)
end Go.Proofs.Ytnfnhjhnfdkinaa.PConvBack
namespace Go.Proofs.Ytnfnhjhnfdkinaa.PConvBack
open Go.RowKit Go.Proofs.YtnfnhjhnfdkinaaW.Mine Go.Proofs.YtnfnhjhnfdkinaaW.PrintWords Go.Proofs.YtnfnhjhnfdkinaaW.PrintLast Go.Proofs.YtnfnhjhnfdkinaaW.PrintMore
attribute [local go_sem] max2_int min2_int max_two min_two max_three min_three max_four min_four
set_option linter.unusedVariables false
set_option linter.unusedSimpArgs false
theorem sum_ne {m n : Nat} (hm : m * 80 ≤ 140737488351232) (hn : n * 144 ≤ 140737488351232) (h : ¬ m + n = 0) : (wrap64 ((m : Int) + (n : Int)) == 0) = false := by
  rw [wrap_ok (by omega) (by omega)]
  exact beq_eq_false_iff_ne.2 (by omega)
theorem own_c (v : Vl) (ov : Okv v) (ox : Okx v) {A6 A7 A8 : Option Addr} {c6 c7 c8 : Nat} {w : World} (hv : RV w v A6 c6 A7 c7 A8 c8) : Calls Try.prog 82 #[vv v A6 c6 A7 c7 A8 c8] w (OwOut v w) := by
  obtain ⟨l6, o6, l7, l8, o8⟩ := ov.parts
  have w6 := ox.types
  have w7 := ox.words
  obtain ⟨hc6, hC6, hc7, hC7, hc8, hC8⟩ := hv
  clear ov ox
  obtain ⟨f0, f1, f2, f3, f4, ⟨g0, g1⟩, f6, f7, f8⟩ := v
  simp only at *
  by_cases k3 : f0 = 3
  · subst k3
    cases f7
    case cons a xs => exact own_t2a (hx := by omega) _ _ _ _ _ _ _ _ _ _
    by_cases hg0 : g0.toList = []
    case neg => exact own_t3ax  (hg0 := hg0) _ _ _ _ _ _ _ _
    obtain rfl := empty_of hg0
    clear hg0
    by_cases hg1 : g1 = 0
    case neg => exact own_t3ay  (hg1 := hg1) _ _ _ _ _ _ _
    subst hg1
    by_cases hf2 : f2 = 0
    case neg => exact own_t4ax  (hf2 := hf2) _ _ _ _ _ _
    subst hf2
    cases f3
    case true => exact own_t4ay  _ _ _ _
    by_cases hs : f6.length + f8.length = 0
    · obtain rfl : f6 = [] := List.eq_nil_of_length_eq_zero (by omega)
      obtain rfl : f8 = [] := List.eq_nil_of_length_eq_zero (by omega)
      by_cases hf1 : f1 = 0
      · subst hf1; exact own_3b _
      · exact own_3c (hf1 := hf1) _ _
    · exact own_3a (hs := sum_ne l6 l8 hs) _ _ _ _
  by_cases hf4 : f4.toList = []
  case neg => exact own_t1 (n3 := k3) (hf4 := hf4) _ _ _ _ _ _ _ _ _ _
  obtain rfl := empty_of hf4
  clear hf4
  by_cases k4 : f0 = 4
  · subst k4
    by_cases hg0 : g0.toList = []
    case neg => exact own_t3bx  (hg0 := hg0) _ _ _ _ _ _ _ _
    obtain rfl := empty_of hg0
    clear hg0
    by_cases hg1 : g1 = 0
    case neg => exact own_t3by  (hg1 := hg1) _ _ _ _ _ _ _
    subst hg1
    by_cases hf2 : f2 = 0
    case neg => exact own_t4bx  (hf2 := hf2) _ _ _ _ _ _
    subst hf2
    cases f3
    case true => exact own_t4by  _ _ _ _
    cases f6
    case cons a xs => exact own_4a (h6 := by simp) _ _ _ _
    by_cases hf1 : f1 = 0
    case neg => exact own_4b (hf1 := hf1) _ _ _
    subst hf1
    by_cases h8 : f8.length = f7.length
    case neg => exact own_4c (h8 := h8) _ _
    exact own_4d (h8 := h8) (hl := l7) (ho := w7) (hC := hC7) (hc := hc7) _ _
  cases f7
  case cons a xs => exact own_t2b (n3 := k3) (n4 := k4) (hx := by omega) _ _ _ _ _ _ _ _ _ _
  by_cases k6 : f0 = 6
  · subst k6
    by_cases hf2 : f2 = 0
    case neg => exact own_t4cx  (hf2 := hf2) _ _ _ _ _ _ _
    subst hf2
    cases f3
    case true => exact own_t4cy  _ _ _ _ _
    by_cases h8 : f8.length = 1
    case neg => exact own_6a  (h8 := h8) _ _ _ _ _
    obtain ⟨y, rfl⟩ : ∃ y, f8 = [y] := List.length_eq_one_iff.1 h8
    cases hq : funB y
    case false => exact own_6b  (hq := hq) (hC8 := hC8) _ _ _ _ _
    case true => exact own_6c  (hq := hq) (hC8 := hC8) (hC6 := hC6) (hl6 := l6) (o6 := o6) (w6 := w6) _ _ _ _ _
  by_cases hg0 : g0.toList = []
  case neg => exact own_t3cx (n3 := k3) (n4 := k4) (n6 := k6) (hg0 := hg0) _ _ _ _ _ _ _ _
  obtain rfl := empty_of hg0
  clear hg0
  by_cases hg1 : g1 = 0
  case neg => exact own_t3cy (n3 := k3) (n4 := k4) (n6 := k6) (hg1 := hg1) _ _ _ _ _ _ _
  subst hg1
  by_cases k7 : f0 = 7
  · subst k7
    by_cases h8 : f8.length = 1
    case neg => exact own_7a  (h8 := h8) _ _ _ _ _
    obtain ⟨y, rfl⟩ : ∃ y, f8 = [y] := List.length_eq_one_iff.1 h8
    cases hq : funB y
    case false => exact own_7b  (hq := hq) (hC8 := hC8) _ _ _ _ _
    case true => exact own_7c  (hq := hq) (hC8 := hC8) (hC6 := hC6) (hl6 := l6) (o6 := o6) (w6 := w6) _ _ _ _ _
  by_cases hf2 : f2 = 0
  case neg => exact own_t4dx (n3 := k3) (n4 := k4) (n6 := k6) (n7 := k7) (hf2 := hf2) _ _ _ _ _ _
  subst hf2
  cases f3
  case true => exact own_t4dy (n3 := k3) (n4 := k4) (n6 := k6) (n7 := k7) _ _ _ _
  by_cases k1 : f0 = 1
  · subst k1; exact own_1 _ _ _
  by_cases k2 : f0 = 2
  · subst k2
    by_cases hs : f6.length + f8.length = 0
    · obtain rfl : f6 = [] := List.eq_nil_of_length_eq_zero (by omega)
      obtain rfl : f8 = [] := List.eq_nil_of_length_eq_zero (by omega)
      by_cases hf1 : f1 = 0
      · subst hf1; exact own_2b 
      · exact own_2c (hf1 := hf1) _
    · exact own_2a (hs := sum_ne l6 l8 hs) _ _ _
  by_cases k5 : f0 = 5
  · subst k5
    by_cases hs : f6.length + f8.length = 0
    · obtain rfl : f6 = [] := List.eq_nil_of_length_eq_zero (by omega)
      obtain rfl : f8 = [] := List.eq_nil_of_length_eq_zero (by omega)
      exact own_5b _
    · exact own_5a (hs := sum_ne l6 l8 hs) _ _ _
  by_cases k8 : f0 = 8
  · subst k8
    cases f6
    case cons a xs => exact own_8a (h6 := by simp) _ _ _
    by_cases h8 : f8.length = 1
    case neg => exact own_8b (h8 := h8) _ _
    exact own_8c (h8 := h8) _ _
  by_cases h8 : f8.length = 1
  case neg => exact own_oa (n1 := k1) (n2 := k2) (n3 := k3) (n4 := k4) (n5 := k5) (n6 := k6) (n7 := k7) (n8 := k8) (h8 := h8) _ _ _ _
  obtain ⟨y, rfl⟩ : ∃ y, f8 = [y] := List.length_eq_one_iff.1 h8
  cases hq : funB y
  case false => exact own_ob (n1 := k1) (n2 := k2) (n3 := k3) (n4 := k4) (n5 := k5) (n6 := k6) (n7 := k7) (n8 := k8) (hq := hq) (hC8 := hC8) _ _ _ _
  case true => exact own_oc (n1 := k1) (n2 := k2) (n3 := k3) (n4 := k4) (n5 := k5) (n6 := k6) (n7 := k7) (n8 := k8) (hq := hq) (hC8 := hC8) (hC6 := hC6) (hl6 := l6) (o6 := o6) (w6 := w6) _ _ _ _
/-- A truth; if it is so, the value is right. -/
def RiOut (v : Vl) (w : World) (e : Ending) (w' : World) : Prop := ∃ b : Bool, e = .returned (.bool b) ∧ (b = true → Ownv v) ∧ Below w.heap.size w w'
def RightC (v : Vl) : Prop := ∀ (A6 : Option Addr) (c6 : Nat) (A7 : Option Addr) (c7 : Nat) (A8 : Option Addr) (c8 : Nat) (w : World), RV w v A6 c6 A7 c7 A8 c8 → Calls Try.prog 45 #[vv v A6 c6 A7 c7 A8 c8] w (RiOut v w)
set_option maxHeartbeats 8000000 in
set_option maxRecDepth 100000 in
theorem rightv_one (v : Vl) (ov : Okv v) (ox : Okx v) (hs : ∀ y, y ∈ v.f8 → RightC y) : RightC v := by
  intro A6 c6 A7 c7 A8 c8 w hv
  have l8 := ov.parts.2.2.2.1
  have kV := blk_new w (.cells (vcells v A6 c6 A7 c7 A8 c8) 55)
  have b0 := below_alloc1 w (.cells (vcells v A6 c6 A7 c7 A8 c8) 55)
  have HO := Aside0.mk (own_c v ov ox (hv.below b0))
  have HS := Aside0.mk hs
  have hC8 := (hv.below b0).2.2.2.2.2
  clear ov ox hs hv
  obtain ⟨⟨v0, v1, v2, v3, v4, v5, v6, v7, v8, v9⟩, _, lv⟩ := ten kV
  go_enter Try.func45, Try.ntmps45
  go_wp2_with fail
  refine HO.out.mono ?_
  rintro e_ w1 ⟨bo, rfl, ho, hb⟩
  have HO1 := Aside0.mk ho
  have b1 := chain b0 hb
  replace kV := blk_up hb kV
  replace hC8 := Kd.C_below hC8 hb
  clear v0 v1 v2 v3 v4 v5 v6 v7 v8 v9 lv b0 hb ho HO
  obtain ⟨⟨v0, v1, v2, v3, v4, v5, v6, v7, v8, v9⟩, _, lv⟩ := ten kV
  cases bo with
  | false =>
    go_wp2
    go_ret
    exact ⟨false, rfl, (fun h => absurd h (by decide)), b1⟩
  | true =>
    have HO2 := Aside0.mk (HO1.out rfl)
    clear HO1
    go_wp2_with fail
    go_loopg [3] v.f8.length (fun kq v3 w' => ∃ i : Nat, v3 = .int .i64 i ∧ kq + i = v.f8.length ∧ (∀ j, j < i → ∀ (hj : j < v.f8.length), Ownv v.f8[j]) ∧ Below w1.heap.size w1 w')
    case atStart => exact ⟨0, rfl, rfl, (fun j h => absurd h (Nat.not_lt_zero _)), Below.refl _ _⟩
    case round =>
      obtain ⟨i, rfl, hk, hj, br⟩ := hrel
      have HJ := Aside0.mk hj
      have BR := Aside0.mk br
      replace kV := blk_up br kV
      replace hC8 := Kd.C_below hC8 br
      have b2 := chain b1 br
      clear v0 v1 v2 v3 v4 v5 v6 v7 v8 v9 lv br b1 hj
      obtain ⟨⟨v0, v1, v2, v3, v4, v5, v6, v7, v8, v9⟩, _, lv⟩ := ten kV
      by_cases hi : i < v.f8.length
      · obtain ⟨k1, rfl⟩ : ∃ k1, gk = k1 + 1 := ⟨gk - 1, by omega⟩
        have ci : decide ((i : Int) < (v.f8.length : Int)) = true := decide_eq_true (by omega)
        have ci2 : decide (i < v.f8.length) = true := decide_eq_true hi
        have i0 : (0 : Int) ≤ (i : Int) := by omega
        have i1 : (i : Int) < (v.f8.length : Int) := by omega
        have hm := List.getElem_mem hi
        obtain ⟨ad, X6, e6, X7, e7, X8, e8, hA, fx, x0, x1, x2, x3, x4, x5, x6, x7, x8, x9⟩ := velt (Kd.C_F heapVl hC8) i hi
        subst hA
        have HC := Aside0.mk (HS.out _ hm _ _ _ _ _ _ _ fx.rv)
        have HK := Aside0.mk hk
        have HN : Aside0 (Ownv v.f8[i] → ∀ j, j < i + 1 → ∀ (hj : j < v.f8.length), Ownv v.f8[j]) := ⟨fun hq j h1 h2 => by
          rcases Nat.lt_succ_iff_lt_or_eq.1 h1 with h | rfl
          · exact HJ.out j h h2
          · exact hq⟩
        clear hk hm fx HJ
        go_wp2_with fail
        refine HC.out.mono ?_
        rintro e_ w3 ⟨r1, rfl, hr1, hb⟩
        have HR1 := Aside0.mk hr1
        have b3 := chain b2 hb
        replace kV := blk_up hb kV
        clear v0 v1 v2 v3 v4 v5 v6 v7 v8 v9 lv b2 hr1 x0 x1 x2 x3 x4 x5 x6 x7 x8 x9
        obtain ⟨⟨v0, v1, v2, v3, v4, v5, v6, v7, v8, v9⟩, _, lv⟩ := ten kV
        cases r1 with
        | false =>
          go_wp2
          go_ret
          exact ⟨false, rfl, (fun h => absurd h (by decide)), b3⟩
        | true =>
          have HN2 := Aside0.mk (HN.out (HR1.out rfl))
          clear HN HR1
          have hw2 : wrap64 ((i : Int) + 1) = (i : Int) + 1 := wrap_ok (by omega) (by omega)
          go_wp2
          go_roundg k1
          case measure => omega
          case rel => exact ⟨i + 1, (by first | rfl | (simp; done) | (push_cast; rfl)), by have := HK.out; omega, HN2.out, chain BR.out hb⟩
      · have cn : decide ((i : Int) < (v.f8.length : Int)) = false := decide_eq_false (by omega)
        have cn2 : decide (i < v.f8.length) = false := decide_eq_false hi
        have HF := Aside0.mk (Ownv.mk v HO2.out.1 HO2.out.2 (fun y hy => by obtain ⟨j, hj, rfl⟩ := List.mem_iff_getElem.1 hy; exact HJ.out j (by omega) hj))
        clear hi hk HJ HO2
        go_wp2
        go_ret
        exact ⟨true, rfl, (fun _ => HF.out), b2⟩
theorem rightv_c : ∀ (n : Nat) (v : Vl), SizeOf.sizeOf v < n → Okv v → Okx v → RightC v
  | 0, _, h, _, _ => absurd h (Nat.not_lt_zero _)
  | n + 1, v, h, ov, ox => rightv_one v ov ox (fun y hy => rightv_c n y (by have := size_kids v y hy; omega) (ov.parts.2.2.2.2 y hy) (ox.all y hy))
end Go.Proofs.Ytnfnhjhnfdkinaa.PConvBack

/-
  ConvBack: texts of this claim, put together by a program of this session. No conditions beyond what each lemma says.
-/
import Derived.Test.YtnfnhjhnfdkinaazConvBack24
namespace Go.Proofs.Ytnfnhjhnfdkinaa.PConvBack
open Go.RowKit Go.Proofs.YtnfnhjhnfdkinaaW.Mine Go.Proofs.YtnfnhjhnfdkinaaW.PrintWords Go.Proofs.YtnfnhjhnfdkinaaW.PrintLast Go.Proofs.YtnfnhjhnfdkinaaW.PrintMore
attribute [local go_sem] max2_int min2_int max_two min_two max_three min_three max_four min_four
set_option linter.unusedVariables false
set_option linter.unusedSimpArgs false
theorem rt_dyn (w : World) : RT w dynT none 0 none 0 := ⟨Nat.le_refl _, Kd.C_nil _ w, Nat.le_refl _, Kd.C_nil _ w⟩
set_option maxHeartbeats 16000000 in
set_option maxRecDepth 100000 in
theorem is_4 (l : List Se) (n : Nat) (v : Vl) (t : Ty) (ol : Okl l) (ov : Okv v) (ot : Okt t) (hs : ∀ y, y ∈ v.f8 → IsC l (isB l n) y) {AL A6 A7 A8 A3 A4 : Option Addr} {cL c6 c7 c8 c3 c4 : Nat} {w : World} (hL : kSe.C w AL l.length l) (hv : RV w v A6 c6 A7 c7 A8 c8) (ht : RT w t A3 c3 A4 c4) (hk : t.f0 = 4) :
    Calls Try.prog 43 #[.slice AL l.length cL, vv v A6 c6 A7 c7 A8 c8, tv t A3 c3 A4 c4] w (BOut w (isB l (n + 1) v t)) := by
  obtain ⟨⟨kV, kT⟩, b0⟩ := twob w (vcells v A6 c6 A7 c7 A8 c8) (tarr t A3 c3 A4 c4) 55 25
  obtain ⟨⟨v0, v1, v2, v3, v4, v5, v6, v7, v8, v9⟩, _, lv⟩ := ten kV
  obtain ⟨⟨t0, t1, t2, t3, t4⟩, _, lt⟩ := five kT
  have hq := isB_t (l := l) (n := n) (v := v) (by omega : t.f0 = 4 ∨ t.f0 = 5)
  generalize isB l (n + 1) v t = o at hq ⊢
  have HQ := Aside0.mk hq
  have OL := Aside0.mk ol
  have OV := Aside0.mk ov
  have OT := Aside0.mk ot
  have HS := Aside0.mk hs
  have HL := Aside0.mk hL
  have HV := Aside0.mk hv
  have HT := Aside0.mk ht
  have B0 := Aside0.mk b0
  clear hq ol ov ot hs hL hv ht kV kT
  have e11 : decide (t.f0 = 1) = false := decide_eq_false (by first | exact hk | omega)
  have e12 : (t.f0 == 1) = false := by first | simpa using hk | (simp; omega)
  have e13 : (t.f0 != 1) = true := by first | simpa using hk | (simp; omega)
  have e21 : decide (t.f0 = 2) = false := decide_eq_false (by first | exact hk | omega)
  have e22 : (t.f0 == 2) = false := by first | simpa using hk | (simp; omega)
  have e23 : (t.f0 != 2) = true := by first | simpa using hk | (simp; omega)
  have e31 : decide (t.f0 = 3) = false := decide_eq_false (by first | exact hk | omega)
  have e32 : (t.f0 == 3) = false := by first | simpa using hk | (simp; omega)
  have e33 : (t.f0 != 3) = true := by first | simpa using hk | (simp; omega)
  have e71 : decide (t.f0 = 7) = false := decide_eq_false (by first | exact hk | omega)
  have e72 : (t.f0 == 7) = false := by first | simpa using hk | (simp; omega)
  have e73 : (t.f0 != 7) = true := by first | simpa using hk | (simp; omega)
  have e91 : decide (t.f0 = 9) = false := decide_eq_false (by first | exact hk | omega)
  have e92 : (t.f0 == 9) = false := by first | simpa using hk | (simp; omega)
  have e93 : (t.f0 != 9) = true := by first | simpa using hk | (simp; omega)
  have e81 : decide (t.f0 = 8) = false := decide_eq_false (by first | exact hk | omega)
  have e82 : (t.f0 == 8) = false := by first | simpa using hk | (simp; omega)
  have e83 : (t.f0 != 8) = true := by first | simpa using hk | (simp; omega)
  have e41 : decide (t.f0 = 4) = true := decide_eq_true (by first | exact hk | omega)
  have e42 : (t.f0 == 4) = true := by first | simpa using hk | (simp; omega)
  have e43 : (t.f0 != 4) = false := by first | simpa using hk | (simp; omega)
  have e51 : decide (t.f0 = 5) = false := decide_eq_false (by first | exact hk | omega)
  have e52 : (t.f0 == 5) = false := by first | simpa using hk | (simp; omega)
  have e53 : (t.f0 != 5) = true := by first | simpa using hk | (simp; omega)
  by_cases h8 : v.f0 = 8
  · have HN : Aside0 (o = sealB l (isB l n) v) := ⟨by rw [HQ.out, if_pos h8]⟩
    have z11 : decide (v.f0 = 1) = false := decide_eq_false (by first | exact h8 | omega)
    have z12 : (v.f0 == 1) = false := by first | simpa using h8 | (simp; omega)
    have z13 : (v.f0 != 1) = true := by first | simpa using h8 | (simp; omega)
    have z21 : decide (v.f0 = 2) = false := decide_eq_false (by first | exact h8 | omega)
    have z22 : (v.f0 == 2) = false := by first | simpa using h8 | (simp; omega)
    have z23 : (v.f0 != 2) = true := by first | simpa using h8 | (simp; omega)
    have z31 : decide (v.f0 = 3) = false := decide_eq_false (by first | exact h8 | omega)
    have z32 : (v.f0 == 3) = false := by first | simpa using h8 | (simp; omega)
    have z33 : (v.f0 != 3) = true := by first | simpa using h8 | (simp; omega)
    have z41 : decide (v.f0 = 4) = false := decide_eq_false (by first | exact h8 | omega)
    have z42 : (v.f0 == 4) = false := by first | simpa using h8 | (simp; omega)
    have z43 : (v.f0 != 4) = true := by first | simpa using h8 | (simp; omega)
    have z81 : decide (v.f0 = 8) = true := decide_eq_true (by first | exact h8 | omega)
    have z82 : (v.f0 == 8) = true := by first | simpa using h8 | (simp; omega)
    have z83 : (v.f0 != 8) = false := by first | simpa using h8 | (simp; omega)
    have HC := Aside0.mk (sealed_c l (isB l n) v OL.out HS.out (cL := cL) (Kd.C_below HL.out b0) (HV.out.below b0))
    clear b0 hk h8
    go_enter Try.func43, Try.ntmps43
    go_wp2_with fail
    refine HC.out.mono ?_
    rintro e w1 ⟨rfl, hb⟩
    have B1 := Aside0.mk (chain B0.out hb)
    go_wp2
    go_ret
    exact ⟨by rw [HN.out]; rfl, B1.out⟩
  by_cases h4 : v.f0 = 4
  · have HN : Aside0 (o = v.f8.all (fun k => isB l n k dynT)) := ⟨by rw [HQ.out, if_neg h8, if_pos h4]⟩
    have z11 : decide (v.f0 = 1) = false := decide_eq_false (by first | exact h4 | omega)
    have z12 : (v.f0 == 1) = false := by first | simpa using h4 | (simp; omega)
    have z13 : (v.f0 != 1) = true := by first | simpa using h4 | (simp; omega)
    have z21 : decide (v.f0 = 2) = false := decide_eq_false (by first | exact h4 | omega)
    have z22 : (v.f0 == 2) = false := by first | simpa using h4 | (simp; omega)
    have z23 : (v.f0 != 2) = true := by first | simpa using h4 | (simp; omega)
    have z31 : decide (v.f0 = 3) = false := decide_eq_false (by first | exact h4 | omega)
    have z32 : (v.f0 == 3) = false := by first | simpa using h4 | (simp; omega)
    have z33 : (v.f0 != 3) = true := by first | simpa using h4 | (simp; omega)
    have z41 : decide (v.f0 = 4) = true := decide_eq_true (by first | exact h4 | omega)
    have z42 : (v.f0 == 4) = true := by first | simpa using h4 | (simp; omega)
    have z43 : (v.f0 != 4) = false := by first | simpa using h4 | (simp; omega)
    have z81 : decide (v.f0 = 8) = false := decide_eq_false (by first | exact h4 | omega)
    have z82 : (v.f0 == 8) = false := by first | simpa using h4 | (simp; omega)
    have z83 : (v.f0 != 8) = true := by first | simpa using h4 | (simp; omega)
    have L8 := OV.out.parts.2.2.2.1
    clear hk HQ h4 h8
    go_enter Try.func43, Try.ntmps43
    go_wp2_with fail
    clear t0 t1 t2 t3 t4 lt
    generalize hX : (w.alloc _).alloc _ = w1 at *
    clear hX
    go_wp2_with fail
    go_loopg [8] v.f8.length (fun kq v8 w' => ∃ (i : Nat), v8 = .int .i64 i ∧ kq + i = v.f8.length ∧ Aside0 (∀ j (hj : j < v.f8.length), j < i → isB l n v.f8[j] dynT = true) ∧ Below w1.heap.size w1 w')
    case atStart => exact ⟨0, rfl, rfl, ⟨fun j _ h => absurd h (Nat.not_lt_zero _)⟩, Below.refl _ _⟩
    case round =>
      obtain ⟨i, rfl, hk, HA, br⟩ := hrel
      by_cases hi : i < v.f8.length
      · obtain ⟨k1, rfl⟩ : ∃ k1, gk = k1 + 1 := ⟨gk - 1, by omega⟩
        have ci : decide ((i : Int) < (v.f8.length : Int)) = true := decide_eq_true (by omega)
        have ci3 : decide (i < v.f8.length) = true := decide_eq_true hi
        have i0 : (0 : Int) ≤ (i : Int) := by omega
        have i1 : (i : Int) < (v.f8.length : Int) := by omega
        obtain ⟨ad, X6, e6, X7, e7, X8, e8, hA, fx, x0, x1, x2, x3, x4, x5, x6, x7, x8, x9⟩ := velt (Kd.C_F heapVl ((HV.out.below B0.out).below br).2.2.2.2.2) i hi
        subst hA
        have HX := Aside0.mk fx.rv
        have HSI := Aside0.mk (HS.out v.f8[i] (List.getElem_mem hi))
        have HLR := Aside0.mk (Kd.C_below (Kd.C_below HL.out B0.out) br)
        replace v9 := cell_up br v9
        replace v0 := cell_up br v0
        have HK := Aside0.mk hk
        have b2 := chain B0.out br
        have BR := Aside0.mk br
        clear hk fx v1 v2 v3 v4 v5 v6 v7 v8
        have HA1 : Aside0 (isB l n v.f8[i] dynT = true → ∀ j (hj : j < v.f8.length), j < i + 1 → isB l n v.f8[j] dynT = true) := ⟨fun hq j hj hji => by rcases Nat.lt_succ_iff_lt_or_eq.1 hji with h | rfl; exact HA.out j hj h; exact hq⟩
        have HF : Aside0 (isB l n v.f8[i] dynT = false → o = false) := ⟨fun hq => by rw [HN.out]; exact all_not hi hq⟩
        generalize v.f8[i] = y at *
        cases hq : isB l n y dynT with
        | true =>
          have HQI := Aside0.mk hq
          have HA2 := Aside0.mk (HA1.out hq)
          clear hq HA1 HF br
          go_wp2_with fail
          refine wp_region_held_drew (S := (fun w' => Below wr.heap.size wr w' ∧ w'.cell? ⟨w.heap.size, 0, none⟩ = some (.int .i64 v.f0) ∧ w'.cell? ⟨w.heap.size, 9, none⟩ = some (.slice (some ad) v.f8.length c8) ∧ w'.cell? (ad.add (i * 10)) = some (.int .i64 y.f0) ∧ w'.cell? ⟨(ad.add (i * 10)).block, (ad.add (i * 10)).off + 1, none⟩ = some (.int .i64 y.f1) ∧ w'.cell? ⟨(ad.add (i * 10)).block, (ad.add (i * 10)).off + 2, none⟩ = some (.int .i64 y.f2) ∧ w'.cell? ⟨(ad.add (i * 10)).block, (ad.add (i * 10)).off + 3, none⟩ = some (.bool y.f3) ∧ w'.cell? ⟨(ad.add (i * 10)).block, (ad.add (i * 10)).off + 4, none⟩ = some (.string y.f4) ∧ w'.cell? ⟨(ad.add (i * 10)).block, (ad.add (i * 10)).off + 5, none⟩ = some (.string y.f5.f0) ∧ w'.cell? ⟨(ad.add (i * 10)).block, (ad.add (i * 10)).off + 6, none⟩ = some (.int .i64 y.f5.f1) ∧ w'.cell? ⟨(ad.add (i * 10)).block, (ad.add (i * 10)).off + 7, none⟩ = some (.slice X6 y.f6.length e6) ∧ w'.cell? ⟨(ad.add (i * 10)).block, (ad.add (i * 10)).off + 8, none⟩ = some (.slice X7 y.f7.length e7) ∧ w'.cell? ⟨(ad.add (i * 10)).block, (ad.add (i * 10)).off + 9, none⟩ = some (.slice X8 y.f8.length e8))) (by kernel_rfl) ?_ (fun hHeld => ?_)
          · (try dsimp only)
            ((refine and_of (fun hB_ => ⟨cell_up hB_ v0, cell_up hB_ v9, cell_up hB_ x0, cell_up hB_ x1, cell_up hB_ x2, cell_up hB_ x3, cell_up hB_ x4, cell_up hB_ x5, cell_up hB_ x6, cell_up hB_ x7, cell_up hB_ x8, cell_up hB_ x9⟩) ?_; first | (with_reducible exact (Below.refl _ _).drew) | (with_reducible exact Below.refl _ _) | (with_reducible exact below_call' (And.left (by assumption)) (by assumption)) | (with_reducible exact And.left (by assumption))))
          (first | (refine take_held (i := 0) (d := (some 126)) (v := ?_) rfl rfl (by kernel_rfl) (by kernel_rfl) (by kernel_rfl) (fun _ _ _ h => h) (Or.inl ⟨by rfl, ?_⟩) (by assumption) ?_; rotate_left 1; focus ((intro w hSw; (try dsimp only at hSw); first | (go_simp; done) | (go_simp; with_reducible rfl)); done); (try simp only [Act.put, List.setIfInBounds_toArray, List.set_cons_zero, List.set_cons_succ])))
          (try simp only [Act.put, List.setIfInBounds_toArray, List.set_cons_zero, List.set_cons_succ])
          (first | (refine take_held (i := 1) (d := (some 127)) (v := ?_) rfl rfl (by kernel_rfl) (by kernel_rfl) (by kernel_rfl) (fun _ _ _ h => h) (Or.inl ⟨by rfl, ?_⟩) (by assumption) ?_; rotate_left 1; focus ((intro w hSw; (try dsimp only at hSw); first | (go_simp; done) | (go_simp; with_reducible rfl)); done); (try simp only [Act.put, List.setIfInBounds_toArray, List.set_cons_zero, List.set_cons_succ])))
          (try simp only [Act.put, List.setIfInBounds_toArray, List.set_cons_zero, List.set_cons_succ])
          (first | (refine take_held (i := 2) (d := (some 128)) (v := ?_) rfl rfl (by kernel_rfl) (by kernel_rfl) (by kernel_rfl) (fun _ _ _ h => h) (Or.inl ⟨by rfl, ?_⟩) (by assumption) ?_; rotate_left 1; focus ((intro w hSw; (try dsimp only at hSw); first | (go_simp; done) | (go_simp; with_reducible rfl)); done); (try simp only [Act.put, List.setIfInBounds_toArray, List.set_cons_zero, List.set_cons_succ])))
          (try simp only [Act.put, List.setIfInBounds_toArray, List.set_cons_zero, List.set_cons_succ])
          (first | (refine take_held (i := 3) (d := (some 129)) (v := ?_) rfl rfl (by kernel_rfl) (by kernel_rfl) (by kernel_rfl) (fun _ _ _ h => h) (Or.inl ⟨by rfl, ?_⟩) (by assumption) ?_; rotate_left 1; focus ((intro w hSw; (try dsimp only at hSw); first | (go_simp; done) | (go_simp; with_reducible rfl)); done); (try simp only [Act.put, List.setIfInBounds_toArray, List.set_cons_zero, List.set_cons_succ])))
          (try simp only [Act.put, List.setIfInBounds_toArray, List.set_cons_zero, List.set_cons_succ])
          (first | (refine take_held (i := 4) (d := (some 130)) (v := ?_) rfl rfl (by kernel_rfl) (by kernel_rfl) (by kernel_rfl) (fun _ _ _ h => h) (Or.inl ⟨by rfl, ?_⟩) (by assumption) ?_; rotate_left 1; focus ((intro w hSw; (try dsimp only at hSw); first | (go_simp; done) | (go_simp; with_reducible rfl)); done); (try simp only [Act.put, List.setIfInBounds_toArray, List.set_cons_zero, List.set_cons_succ])))
          (try simp only [Act.put, List.setIfInBounds_toArray, List.set_cons_zero, List.set_cons_succ])
          (first | (refine take_held (i := 5) (d := (some 131)) (v := ?_) rfl rfl (by kernel_rfl) (by kernel_rfl) (by kernel_rfl) (fun _ _ _ h => h) (Or.inl ⟨by rfl, ?_⟩) (by assumption) ?_; rotate_left 1; focus ((intro w hSw; (try dsimp only at hSw); first | (go_simp; done) | (go_simp; with_reducible rfl)); done); (try simp only [Act.put, List.setIfInBounds_toArray, List.set_cons_zero, List.set_cons_succ])))
          (try simp only [Act.put, List.setIfInBounds_toArray, List.set_cons_zero, List.set_cons_succ])
          (first
            | (refine wpAnyH_ready (rs := [6]) (by kernel_rfl) (by simp) ?_; refine AllReadyH.cons (o := _) rfl (fun K hK => ?_) AllReadyH.nil; go_simp; (go_at_call 52; refine (dyn_c).mono ?_; rintro e_ wD ⟨rfl, hbD⟩); (try go_wp2_with fail); refine hK.out _ _ (by (try dsimp only); ((refine and_of (fun hB_ => ⟨cell_up hB_ v0, cell_up hB_ v9, cell_up hB_ x0, cell_up hB_ x1, cell_up hB_ x2, cell_up hB_ x3, cell_up hB_ x4, cell_up hB_ x5, cell_up hB_ x6, cell_up hB_ x7, cell_up hB_ x8, cell_up hB_ x9⟩) ?_; first | (with_reducible exact (Below.refl _ _).drew) | (with_reducible exact Below.refl _ _) | (with_reducible exact below_call' (And.left (by assumption)) (by assumption)) | (with_reducible exact And.left (by assumption))))) ?_; clear hHeld hK K; intro hHeld; (try simp only [Act.put, List.setIfInBounds_toArray, List.set_cons_zero, List.set_cons_succ])))
          (first
            | (refine wpAnyH_ready (rs := [7]) (by kernel_rfl) (by simp) ?_; refine AllReadyH.cons (o := _) rfl (fun K hK => ?_) AllReadyH.nil; go_simp; (go_at_call 43; refine (HSI.out _ okt_dyn _ _ _ _ _ _ _ _ none 0 none 0 _ (Kd.C_below HLR.out (And.left (by assumption))) (HX.out.below (And.left (by assumption))) (rt_dyn _)).mono ?_; rw [HQI.out]; rintro e_ wA ⟨rfl, hbA⟩); (try go_wp2_with fail); refine hK.out _ _ (by (try dsimp only); ((refine and_of (fun hB_ => ⟨cell_up hB_ v0, cell_up hB_ v9, cell_up hB_ x0, cell_up hB_ x1, cell_up hB_ x2, cell_up hB_ x3, cell_up hB_ x4, cell_up hB_ x5, cell_up hB_ x6, cell_up hB_ x7, cell_up hB_ x8, cell_up hB_ x9⟩) ?_; first | (with_reducible exact (Below.refl _ _).drew) | (with_reducible exact Below.refl _ _) | (with_reducible exact below_call' (And.left (by assumption)) (by assumption)) | (with_reducible exact And.left (by assumption))))) ?_; clear hHeld hK K; intro hHeld; (try simp only [Act.put, List.setIfInBounds_toArray, List.set_cons_zero, List.set_cons_succ])))
          (first | (refine take_held (i := 8) (d := (some 134)) (v := ?_) rfl rfl (by kernel_rfl) (by kernel_rfl) (by kernel_rfl) (fun _ _ _ h => h) (Or.inl ⟨by rfl, ?_⟩) (by assumption) ?_; rotate_left 1; focus ((intro w hSw; (try dsimp only at hSw); first | (go_simp; done) | (go_simp; with_reducible rfl)); done); (try simp only [Act.put, List.setIfInBounds_toArray, List.set_cons_zero, List.set_cons_succ])))
          (try simp only [Act.put, List.setIfInBounds_toArray, List.set_cons_zero, List.set_cons_succ])
          (try simp only [Act.put, List.setIfInBounds_toArray, List.set_cons_zero, List.set_cons_succ])
          refine wpAnyH_done (by kernel_rfl) ?_ _
          have b3 := chain BR.out (below_call' hHeld.1 (Below.refl _ _))
          go_wp2
          go_roundg k1
          case measure => omega
          case rel => exact ⟨i + 1, (by first | rfl | (simp; done) | (push_cast; rfl)), by have := HK.out; omega, HA2, b3⟩
        | false =>
          have HQI := Aside0.mk hq
          have HF2 := Aside0.mk (HF.out hq)
          clear hq HA1 HF br
          go_wp2_with fail
          refine wp_region_held_drew (S := (fun w' => Below wr.heap.size wr w' ∧ w'.cell? ⟨w.heap.size, 0, none⟩ = some (.int .i64 v.f0) ∧ w'.cell? ⟨w.heap.size, 9, none⟩ = some (.slice (some ad) v.f8.length c8) ∧ w'.cell? (ad.add (i * 10)) = some (.int .i64 y.f0) ∧ w'.cell? ⟨(ad.add (i * 10)).block, (ad.add (i * 10)).off + 1, none⟩ = some (.int .i64 y.f1) ∧ w'.cell? ⟨(ad.add (i * 10)).block, (ad.add (i * 10)).off + 2, none⟩ = some (.int .i64 y.f2) ∧ w'.cell? ⟨(ad.add (i * 10)).block, (ad.add (i * 10)).off + 3, none⟩ = some (.bool y.f3) ∧ w'.cell? ⟨(ad.add (i * 10)).block, (ad.add (i * 10)).off + 4, none⟩ = some (.string y.f4) ∧ w'.cell? ⟨(ad.add (i * 10)).block, (ad.add (i * 10)).off + 5, none⟩ = some (.string y.f5.f0) ∧ w'.cell? ⟨(ad.add (i * 10)).block, (ad.add (i * 10)).off + 6, none⟩ = some (.int .i64 y.f5.f1) ∧ w'.cell? ⟨(ad.add (i * 10)).block, (ad.add (i * 10)).off + 7, none⟩ = some (.slice X6 y.f6.length e6) ∧ w'.cell? ⟨(ad.add (i * 10)).block, (ad.add (i * 10)).off + 8, none⟩ = some (.slice X7 y.f7.length e7) ∧ w'.cell? ⟨(ad.add (i * 10)).block, (ad.add (i * 10)).off + 9, none⟩ = some (.slice X8 y.f8.length e8))) (by kernel_rfl) ?_ (fun hHeld => ?_)
          · (try dsimp only)
            ((refine and_of (fun hB_ => ⟨cell_up hB_ v0, cell_up hB_ v9, cell_up hB_ x0, cell_up hB_ x1, cell_up hB_ x2, cell_up hB_ x3, cell_up hB_ x4, cell_up hB_ x5, cell_up hB_ x6, cell_up hB_ x7, cell_up hB_ x8, cell_up hB_ x9⟩) ?_; first | (with_reducible exact (Below.refl _ _).drew) | (with_reducible exact Below.refl _ _) | (with_reducible exact below_call' (And.left (by assumption)) (by assumption)) | (with_reducible exact And.left (by assumption))))
          (first | (refine take_held (i := 0) (d := (some 126)) (v := ?_) rfl rfl (by kernel_rfl) (by kernel_rfl) (by kernel_rfl) (fun _ _ _ h => h) (Or.inl ⟨by rfl, ?_⟩) (by assumption) ?_; rotate_left 1; focus ((intro w hSw; (try dsimp only at hSw); first | (go_simp; done) | (go_simp; with_reducible rfl)); done); (try simp only [Act.put, List.setIfInBounds_toArray, List.set_cons_zero, List.set_cons_succ])))
          (try simp only [Act.put, List.setIfInBounds_toArray, List.set_cons_zero, List.set_cons_succ])
          (first | (refine take_held (i := 1) (d := (some 127)) (v := ?_) rfl rfl (by kernel_rfl) (by kernel_rfl) (by kernel_rfl) (fun _ _ _ h => h) (Or.inl ⟨by rfl, ?_⟩) (by assumption) ?_; rotate_left 1; focus ((intro w hSw; (try dsimp only at hSw); first | (go_simp; done) | (go_simp; with_reducible rfl)); done); (try simp only [Act.put, List.setIfInBounds_toArray, List.set_cons_zero, List.set_cons_succ])))
          (try simp only [Act.put, List.setIfInBounds_toArray, List.set_cons_zero, List.set_cons_succ])
          (first | (refine take_held (i := 2) (d := (some 128)) (v := ?_) rfl rfl (by kernel_rfl) (by kernel_rfl) (by kernel_rfl) (fun _ _ _ h => h) (Or.inl ⟨by rfl, ?_⟩) (by assumption) ?_; rotate_left 1; focus ((intro w hSw; (try dsimp only at hSw); first | (go_simp; done) | (go_simp; with_reducible rfl)); done); (try simp only [Act.put, List.setIfInBounds_toArray, List.set_cons_zero, List.set_cons_succ])))
          (try simp only [Act.put, List.setIfInBounds_toArray, List.set_cons_zero, List.set_cons_succ])
          (first | (refine take_held (i := 3) (d := (some 129)) (v := ?_) rfl rfl (by kernel_rfl) (by kernel_rfl) (by kernel_rfl) (fun _ _ _ h => h) (Or.inl ⟨by rfl, ?_⟩) (by assumption) ?_; rotate_left 1; focus ((intro w hSw; (try dsimp only at hSw); first | (go_simp; done) | (go_simp; with_reducible rfl)); done); (try simp only [Act.put, List.setIfInBounds_toArray, List.set_cons_zero, List.set_cons_succ])))
          (try simp only [Act.put, List.setIfInBounds_toArray, List.set_cons_zero, List.set_cons_succ])
          (first | (refine take_held (i := 4) (d := (some 130)) (v := ?_) rfl rfl (by kernel_rfl) (by kernel_rfl) (by kernel_rfl) (fun _ _ _ h => h) (Or.inl ⟨by rfl, ?_⟩) (by assumption) ?_; rotate_left 1; focus ((intro w hSw; (try dsimp only at hSw); first | (go_simp; done) | (go_simp; with_reducible rfl)); done); (try simp only [Act.put, List.setIfInBounds_toArray, List.set_cons_zero, List.set_cons_succ])))
          (try simp only [Act.put, List.setIfInBounds_toArray, List.set_cons_zero, List.set_cons_succ])
          (first | (refine take_held (i := 5) (d := (some 131)) (v := ?_) rfl rfl (by kernel_rfl) (by kernel_rfl) (by kernel_rfl) (fun _ _ _ h => h) (Or.inl ⟨by rfl, ?_⟩) (by assumption) ?_; rotate_left 1; focus ((intro w hSw; (try dsimp only at hSw); first | (go_simp; done) | (go_simp; with_reducible rfl)); done); (try simp only [Act.put, List.setIfInBounds_toArray, List.set_cons_zero, List.set_cons_succ])))
          (try simp only [Act.put, List.setIfInBounds_toArray, List.set_cons_zero, List.set_cons_succ])
          (first
            | (refine wpAnyH_ready (rs := [6]) (by kernel_rfl) (by simp) ?_; refine AllReadyH.cons (o := _) rfl (fun K hK => ?_) AllReadyH.nil; go_simp; (go_at_call 52; refine (dyn_c).mono ?_; rintro e_ wD ⟨rfl, hbD⟩); (try go_wp2_with fail); refine hK.out _ _ (by (try dsimp only); ((refine and_of (fun hB_ => ⟨cell_up hB_ v0, cell_up hB_ v9, cell_up hB_ x0, cell_up hB_ x1, cell_up hB_ x2, cell_up hB_ x3, cell_up hB_ x4, cell_up hB_ x5, cell_up hB_ x6, cell_up hB_ x7, cell_up hB_ x8, cell_up hB_ x9⟩) ?_; first | (with_reducible exact (Below.refl _ _).drew) | (with_reducible exact Below.refl _ _) | (with_reducible exact below_call' (And.left (by assumption)) (by assumption)) | (with_reducible exact And.left (by assumption))))) ?_; clear hHeld hK K; intro hHeld; (try simp only [Act.put, List.setIfInBounds_toArray, List.set_cons_zero, List.set_cons_succ])))
          (first
            | (refine wpAnyH_ready (rs := [7]) (by kernel_rfl) (by simp) ?_; refine AllReadyH.cons (o := _) rfl (fun K hK => ?_) AllReadyH.nil; go_simp; (go_at_call 43; refine (HSI.out _ okt_dyn _ _ _ _ _ _ _ _ none 0 none 0 _ (Kd.C_below HLR.out (And.left (by assumption))) (HX.out.below (And.left (by assumption))) (rt_dyn _)).mono ?_; rw [HQI.out]; rintro e_ wA ⟨rfl, hbA⟩); (try go_wp2_with fail); refine hK.out _ _ (by (try dsimp only); ((refine and_of (fun hB_ => ⟨cell_up hB_ v0, cell_up hB_ v9, cell_up hB_ x0, cell_up hB_ x1, cell_up hB_ x2, cell_up hB_ x3, cell_up hB_ x4, cell_up hB_ x5, cell_up hB_ x6, cell_up hB_ x7, cell_up hB_ x8, cell_up hB_ x9⟩) ?_; first | (with_reducible exact (Below.refl _ _).drew) | (with_reducible exact Below.refl _ _) | (with_reducible exact below_call' (And.left (by assumption)) (by assumption)) | (with_reducible exact And.left (by assumption))))) ?_; clear hHeld hK K; intro hHeld; (try simp only [Act.put, List.setIfInBounds_toArray, List.set_cons_zero, List.set_cons_succ])))
          (first | (refine take_held (i := 8) (d := (some 134)) (v := ?_) rfl rfl (by kernel_rfl) (by kernel_rfl) (by kernel_rfl) (fun _ _ _ h => h) (Or.inl ⟨by rfl, ?_⟩) (by assumption) ?_; rotate_left 1; focus ((intro w hSw; (try dsimp only at hSw); first | (go_simp; done) | (go_simp; with_reducible rfl)); done); (try simp only [Act.put, List.setIfInBounds_toArray, List.set_cons_zero, List.set_cons_succ])))
          (try simp only [Act.put, List.setIfInBounds_toArray, List.set_cons_zero, List.set_cons_succ])
          (try simp only [Act.put, List.setIfInBounds_toArray, List.set_cons_zero, List.set_cons_succ])
          refine wpAnyH_done (by kernel_rfl) ?_ _
          have b3 := chain b2 (below_call' hHeld.1 (Below.refl _ _))
          go_wp2
          go_ret
          exact ⟨by rw [HF2.out]; rfl, b3⟩
      · have cn : decide ((i : Int) < (v.f8.length : Int)) = false := decide_eq_false (by omega)
        have cn2 : decide (i < v.f8.length) = false := decide_eq_false hi
        have HO : Aside0 (o = true) := ⟨by rw [HN.out]; exact all_all (fun j hj => HA.out j hj (by omega))⟩
        replace v9 := cell_up br v9
        replace v0 := cell_up br v0
        have b2 := chain B0.out br
        clear v1 v2 v3 v4 v5 v6 v7 v8
        go_wp2
        go_ret
        exact ⟨by rw [HO.out]; rfl, b2⟩
  have HN0 : Aside0 (o = (decide (v.f0 = 1) || (decide (v.f0 = 2) || (decide (v.f0 = 3) || funB v)))) := ⟨by rw [HQ.out, if_neg h8, if_neg h4]⟩
  clear HQ
  by_cases hz : v.f0 = 1
  · have HN : Aside0 (o = true) := ⟨by rw [HN0.out, hz]; rfl⟩
    have z11 : decide (v.f0 = 1) = true := decide_eq_true (by first | exact hz | omega)
    have z12 : (v.f0 == 1) = true := by first | simpa using hz | (simp; omega)
    have z13 : (v.f0 != 1) = false := by first | simpa using hz | (simp; omega)
    have z21 : decide (v.f0 = 2) = false := decide_eq_false (by first | exact hz | omega)
    have z22 : (v.f0 == 2) = false := by first | simpa using hz | (simp; omega)
    have z23 : (v.f0 != 2) = true := by first | simpa using hz | (simp; omega)
    have z31 : decide (v.f0 = 3) = false := decide_eq_false (by first | exact hz | omega)
    have z32 : (v.f0 == 3) = false := by first | simpa using hz | (simp; omega)
    have z33 : (v.f0 != 3) = true := by first | simpa using hz | (simp; omega)
    have z41 : decide (v.f0 = 4) = false := decide_eq_false (by first | exact hz | omega)
    have z42 : (v.f0 == 4) = false := by first | simpa using hz | (simp; omega)
    have z43 : (v.f0 != 4) = true := by first | simpa using hz | (simp; omega)
    have z81 : decide (v.f0 = 8) = false := decide_eq_false (by first | exact hz | omega)
    have z82 : (v.f0 == 8) = false := by first | simpa using hz | (simp; omega)
    have z83 : (v.f0 != 8) = true := by first | simpa using hz | (simp; omega)
    clear hk b0 hz h8 h4
    go_enter Try.func43, Try.ntmps43
    go_wp2_with fail
    clear t0 t1 t2 t3 t4 lt
    generalize hX : (w.alloc _).alloc _ = w1 at *
    clear hX
    go_wp2_with fail
    go_loopg [8] v.f8.length (fun kq v8 w' => v8 = .int .i64 0 ∧ Below w1.heap.size w1 w')
    case atStart => exact ⟨rfl, Below.refl _ _⟩
    case round =>
      obtain ⟨rfl, br⟩ := hrel
      replace v0 := cell_up br v0
      replace v1 := cell_up br v1
      replace v2 := cell_up br v2
      replace v3 := cell_up br v3
      replace v4 := cell_up br v4
      replace v5 := cell_up br v5
      replace v6 := cell_up br v6
      replace v7 := cell_up br v7
      replace v8 := cell_up br v8
      replace v9 := cell_up br v9
      have b2 := chain B0.out br
      have HV2 := Aside0.mk b2
      have hl := Nat.eq_zero_or_pos v.f8.length
      rcases hl with hl | hl
      · have m1 : decide ((0 : Int) < (v.f8.length : Int)) = false := decide_eq_false (by omega)
        have m2 : decide (0 < v.f8.length) = false := decide_eq_false (by omega)
        clear hl
        go_wp2
        go_ret
        exact ⟨by rw [HN.out]; rfl, HV2.out⟩
      · have m1 : decide ((0 : Int) < (v.f8.length : Int)) = true := decide_eq_true (by omega)
        have m2 : decide (0 < v.f8.length) = true := decide_eq_true (by omega)
        clear hl
        go_wp2
        go_ret
        exact ⟨by rw [HN.out]; rfl, HV2.out⟩
  have h1 := hz
  clear hz
  by_cases hz : v.f0 = 2
  · have HN : Aside0 (o = true) := ⟨by rw [HN0.out, hz]; rfl⟩
    have z11 : decide (v.f0 = 1) = false := decide_eq_false (by first | exact hz | omega)
    have z12 : (v.f0 == 1) = false := by first | simpa using hz | (simp; omega)
    have z13 : (v.f0 != 1) = true := by first | simpa using hz | (simp; omega)
    have z21 : decide (v.f0 = 2) = true := decide_eq_true (by first | exact hz | omega)
    have z22 : (v.f0 == 2) = true := by first | simpa using hz | (simp; omega)
    have z23 : (v.f0 != 2) = false := by first | simpa using hz | (simp; omega)
    have z31 : decide (v.f0 = 3) = false := decide_eq_false (by first | exact hz | omega)
    have z32 : (v.f0 == 3) = false := by first | simpa using hz | (simp; omega)
    have z33 : (v.f0 != 3) = true := by first | simpa using hz | (simp; omega)
    have z41 : decide (v.f0 = 4) = false := decide_eq_false (by first | exact hz | omega)
    have z42 : (v.f0 == 4) = false := by first | simpa using hz | (simp; omega)
    have z43 : (v.f0 != 4) = true := by first | simpa using hz | (simp; omega)
    have z81 : decide (v.f0 = 8) = false := decide_eq_false (by first | exact hz | omega)
    have z82 : (v.f0 == 8) = false := by first | simpa using hz | (simp; omega)
    have z83 : (v.f0 != 8) = true := by first | simpa using hz | (simp; omega)
    clear hk b0 hz h8 h4
    go_enter Try.func43, Try.ntmps43
    go_wp2_with fail
    clear t0 t1 t2 t3 t4 lt
    generalize hX : (w.alloc _).alloc _ = w1 at *
    clear hX
    go_wp2_with fail
    go_loopg [8] v.f8.length (fun kq v8 w' => v8 = .int .i64 0 ∧ Below w1.heap.size w1 w')
    case atStart => exact ⟨rfl, Below.refl _ _⟩
    case round =>
      obtain ⟨rfl, br⟩ := hrel
      replace v0 := cell_up br v0
      replace v1 := cell_up br v1
      replace v2 := cell_up br v2
      replace v3 := cell_up br v3
      replace v4 := cell_up br v4
      replace v5 := cell_up br v5
      replace v6 := cell_up br v6
      replace v7 := cell_up br v7
      replace v8 := cell_up br v8
      replace v9 := cell_up br v9
      have b2 := chain B0.out br
      have HV2 := Aside0.mk b2
      have hl := Nat.eq_zero_or_pos v.f8.length
      rcases hl with hl | hl
      · have m1 : decide ((0 : Int) < (v.f8.length : Int)) = false := decide_eq_false (by omega)
        have m2 : decide (0 < v.f8.length) = false := decide_eq_false (by omega)
        clear hl
        go_wp2
        go_ret
        exact ⟨by rw [HN.out]; rfl, HV2.out⟩
      · have m1 : decide ((0 : Int) < (v.f8.length : Int)) = true := decide_eq_true (by omega)
        have m2 : decide (0 < v.f8.length) = true := decide_eq_true (by omega)
        clear hl
        go_wp2
        go_ret
        exact ⟨by rw [HN.out]; rfl, HV2.out⟩
  have h2 := hz
  clear hz
  by_cases hz : v.f0 = 3
  · have HN : Aside0 (o = true) := ⟨by rw [HN0.out, hz]; rfl⟩
    have z11 : decide (v.f0 = 1) = false := decide_eq_false (by first | exact hz | omega)
    have z12 : (v.f0 == 1) = false := by first | simpa using hz | (simp; omega)
    have z13 : (v.f0 != 1) = true := by first | simpa using hz | (simp; omega)
    have z21 : decide (v.f0 = 2) = false := decide_eq_false (by first | exact hz | omega)
    have z22 : (v.f0 == 2) = false := by first | simpa using hz | (simp; omega)
    have z23 : (v.f0 != 2) = true := by first | simpa using hz | (simp; omega)
    have z31 : decide (v.f0 = 3) = true := decide_eq_true (by first | exact hz | omega)
    have z32 : (v.f0 == 3) = true := by first | simpa using hz | (simp; omega)
    have z33 : (v.f0 != 3) = false := by first | simpa using hz | (simp; omega)
    have z41 : decide (v.f0 = 4) = false := decide_eq_false (by first | exact hz | omega)
    have z42 : (v.f0 == 4) = false := by first | simpa using hz | (simp; omega)
    have z43 : (v.f0 != 4) = true := by first | simpa using hz | (simp; omega)
    have z81 : decide (v.f0 = 8) = false := decide_eq_false (by first | exact hz | omega)
    have z82 : (v.f0 == 8) = false := by first | simpa using hz | (simp; omega)
    have z83 : (v.f0 != 8) = true := by first | simpa using hz | (simp; omega)
    clear hk b0 hz h8 h4
    go_enter Try.func43, Try.ntmps43
    go_wp2_with fail
    clear t0 t1 t2 t3 t4 lt
    generalize hX : (w.alloc _).alloc _ = w1 at *
    clear hX
    go_wp2_with fail
    go_loopg [8] v.f8.length (fun kq v8 w' => v8 = .int .i64 0 ∧ Below w1.heap.size w1 w')
    case atStart => exact ⟨rfl, Below.refl _ _⟩
    case round =>
      obtain ⟨rfl, br⟩ := hrel
      replace v0 := cell_up br v0
      replace v1 := cell_up br v1
      replace v2 := cell_up br v2
      replace v3 := cell_up br v3
      replace v4 := cell_up br v4
      replace v5 := cell_up br v5
      replace v6 := cell_up br v6
      replace v7 := cell_up br v7
      replace v8 := cell_up br v8
      replace v9 := cell_up br v9
      have b2 := chain B0.out br
      have HV2 := Aside0.mk b2
      have hl := Nat.eq_zero_or_pos v.f8.length
      rcases hl with hl | hl
      · have m1 : decide ((0 : Int) < (v.f8.length : Int)) = false := decide_eq_false (by omega)
        have m2 : decide (0 < v.f8.length) = false := decide_eq_false (by omega)
        clear hl
        go_wp2
        go_ret
        exact ⟨by rw [HN.out]; rfl, HV2.out⟩
      · have m1 : decide ((0 : Int) < (v.f8.length : Int)) = true := decide_eq_true (by omega)
        have m2 : decide (0 < v.f8.length) = true := decide_eq_true (by omega)
        clear hl
        go_wp2
        go_ret
        exact ⟨by rw [HN.out]; rfl, HV2.out⟩
  have h3 := hz
  clear hz
  have HN : Aside0 (o = funB v) := ⟨by rw [HN0.out, decide_eq_false h1, decide_eq_false h2, decide_eq_false h3]; rfl⟩
  have z11 : decide (v.f0 = 1) = false := decide_eq_false (by first | exact h1 | omega)
  have z12 : (v.f0 == 1) = false := by first | simpa using h1 | (simp; omega)
  have z13 : (v.f0 != 1) = true := by first | simpa using h1 | (simp; omega)
  have z21 : decide (v.f0 = 2) = false := decide_eq_false (by first | exact h2 | omega)
  have z22 : (v.f0 == 2) = false := by first | simpa using h2 | (simp; omega)
  have z23 : (v.f0 != 2) = true := by first | simpa using h2 | (simp; omega)
  have z31 : decide (v.f0 = 3) = false := decide_eq_false (by first | exact h3 | omega)
  have z32 : (v.f0 == 3) = false := by first | simpa using h3 | (simp; omega)
  have z33 : (v.f0 != 3) = true := by first | simpa using h3 | (simp; omega)
  have z41 : decide (v.f0 = 4) = false := decide_eq_false (by first | exact h4 | omega)
  have z42 : (v.f0 == 4) = false := by first | simpa using h4 | (simp; omega)
  have z43 : (v.f0 != 4) = true := by first | simpa using h4 | (simp; omega)
  have z81 : decide (v.f0 = 8) = false := decide_eq_false (by first | exact h8 | omega)
  have z82 : (v.f0 == 8) = false := by first | simpa using h8 | (simp; omega)
  have z83 : (v.f0 != 8) = true := by first | simpa using h8 | (simp; omega)
  clear hk b0 h1 h2 h3 h4 h8
  go_enter Try.func43, Try.ntmps43
  go_wp2_with fail
  clear t0 t1 t2 t3 t4 lt
  generalize hX : (w.alloc _).alloc _ = w1 at *
  clear hX
  go_wp2_with fail
  go_loopg [8] v.f8.length (fun kq v8 w' => v8 = .int .i64 0 ∧ Below w1.heap.size w1 w')
  case atStart => exact ⟨rfl, Below.refl _ _⟩
  case round =>
    obtain ⟨rfl, br⟩ := hrel
    replace v0 := cell_up br v0
    replace v1 := cell_up br v1
    replace v2 := cell_up br v2
    replace v3 := cell_up br v3
    replace v4 := cell_up br v4
    replace v5 := cell_up br v5
    replace v6 := cell_up br v6
    replace v7 := cell_up br v7
    replace v8 := cell_up br v8
    replace v9 := cell_up br v9
    have b2 := chain B0.out br
    have HV2 := Aside0.mk b2
    have hl := Nat.eq_zero_or_pos v.f8.length
    rcases hl with hl | hl
    · have m1 : decide ((0 : Int) < (v.f8.length : Int)) = false := decide_eq_false (by omega)
      have m2 : decide (0 < v.f8.length) = false := decide_eq_false (by omega)
      clear hl
      go_wp2_with fail
      refine (rfun_c v).mono ?_
      rintro e w3 ⟨rfl, hb⟩
      have B3 := Aside0.mk (chain HV2.out hb)
      go_wp2
      go_ret
      exact ⟨by rw [HN.out]; rfl, B3.out⟩
    · have m1 : decide ((0 : Int) < (v.f8.length : Int)) = true := decide_eq_true (by omega)
      have m2 : decide (0 < v.f8.length) = true := decide_eq_true (by omega)
      clear hl
      go_wp2_with fail
      refine (rfun_c v).mono ?_
      rintro e w3 ⟨rfl, hb⟩
      have B3 := Aside0.mk (chain HV2.out hb)
      go_wp2
      go_ret
      exact ⟨by rw [HN.out]; rfl, B3.out⟩
set_option maxHeartbeats 16000000 in
set_option maxRecDepth 100000 in
theorem is_5 (l : List Se) (n : Nat) (v : Vl) (t : Ty) (ol : Okl l) (ov : Okv v) (ot : Okt t) (hs : ∀ y, y ∈ v.f8 → IsC l (isB l n) y) {AL A6 A7 A8 A3 A4 : Option Addr} {cL c6 c7 c8 c3 c4 : Nat} {w : World} (hL : kSe.C w AL l.length l) (hv : RV w v A6 c6 A7 c7 A8 c8) (ht : RT w t A3 c3 A4 c4) (hk : t.f0 = 5) :
    Calls Try.prog 43 #[.slice AL l.length cL, vv v A6 c6 A7 c7 A8 c8, tv t A3 c3 A4 c4] w (BOut w (isB l (n + 1) v t)) := by
  obtain ⟨⟨kV, kT⟩, b0⟩ := twob w (vcells v A6 c6 A7 c7 A8 c8) (tarr t A3 c3 A4 c4) 55 25
  obtain ⟨⟨v0, v1, v2, v3, v4, v5, v6, v7, v8, v9⟩, _, lv⟩ := ten kV
  obtain ⟨⟨t0, t1, t2, t3, t4⟩, _, lt⟩ := five kT
  have hq := isB_t (l := l) (n := n) (v := v) (by omega : t.f0 = 4 ∨ t.f0 = 5)
  generalize isB l (n + 1) v t = o at hq ⊢
  have HQ := Aside0.mk hq
  have OL := Aside0.mk ol
  have OV := Aside0.mk ov
  have OT := Aside0.mk ot
  have HS := Aside0.mk hs
  have HL := Aside0.mk hL
  have HV := Aside0.mk hv
  have HT := Aside0.mk ht
  have B0 := Aside0.mk b0
  clear hq ol ov ot hs hL hv ht kV kT
  have e11 : decide (t.f0 = 1) = false := decide_eq_false (by first | exact hk | omega)
  have e12 : (t.f0 == 1) = false := by first | simpa using hk | (simp; omega)
  have e13 : (t.f0 != 1) = true := by first | simpa using hk | (simp; omega)
  have e21 : decide (t.f0 = 2) = false := decide_eq_false (by first | exact hk | omega)
  have e22 : (t.f0 == 2) = false := by first | simpa using hk | (simp; omega)
  have e23 : (t.f0 != 2) = true := by first | simpa using hk | (simp; omega)
  have e31 : decide (t.f0 = 3) = false := decide_eq_false (by first | exact hk | omega)
  have e32 : (t.f0 == 3) = false := by first | simpa using hk | (simp; omega)
  have e33 : (t.f0 != 3) = true := by first | simpa using hk | (simp; omega)
  have e71 : decide (t.f0 = 7) = false := decide_eq_false (by first | exact hk | omega)
  have e72 : (t.f0 == 7) = false := by first | simpa using hk | (simp; omega)
  have e73 : (t.f0 != 7) = true := by first | simpa using hk | (simp; omega)
  have e91 : decide (t.f0 = 9) = false := decide_eq_false (by first | exact hk | omega)
  have e92 : (t.f0 == 9) = false := by first | simpa using hk | (simp; omega)
  have e93 : (t.f0 != 9) = true := by first | simpa using hk | (simp; omega)
  have e81 : decide (t.f0 = 8) = false := decide_eq_false (by first | exact hk | omega)
  have e82 : (t.f0 == 8) = false := by first | simpa using hk | (simp; omega)
  have e83 : (t.f0 != 8) = true := by first | simpa using hk | (simp; omega)
  have e41 : decide (t.f0 = 4) = false := decide_eq_false (by first | exact hk | omega)
  have e42 : (t.f0 == 4) = false := by first | simpa using hk | (simp; omega)
  have e43 : (t.f0 != 4) = true := by first | simpa using hk | (simp; omega)
  have e51 : decide (t.f0 = 5) = true := decide_eq_true (by first | exact hk | omega)
  have e52 : (t.f0 == 5) = true := by first | simpa using hk | (simp; omega)
  have e53 : (t.f0 != 5) = false := by first | simpa using hk | (simp; omega)
  by_cases h8 : v.f0 = 8
  · have HN : Aside0 (o = sealB l (isB l n) v) := ⟨by rw [HQ.out, if_pos h8]⟩
    have z11 : decide (v.f0 = 1) = false := decide_eq_false (by first | exact h8 | omega)
    have z12 : (v.f0 == 1) = false := by first | simpa using h8 | (simp; omega)
    have z13 : (v.f0 != 1) = true := by first | simpa using h8 | (simp; omega)
    have z21 : decide (v.f0 = 2) = false := decide_eq_false (by first | exact h8 | omega)
    have z22 : (v.f0 == 2) = false := by first | simpa using h8 | (simp; omega)
    have z23 : (v.f0 != 2) = true := by first | simpa using h8 | (simp; omega)
    have z31 : decide (v.f0 = 3) = false := decide_eq_false (by first | exact h8 | omega)
    have z32 : (v.f0 == 3) = false := by first | simpa using h8 | (simp; omega)
    have z33 : (v.f0 != 3) = true := by first | simpa using h8 | (simp; omega)
    have z41 : decide (v.f0 = 4) = false := decide_eq_false (by first | exact h8 | omega)
    have z42 : (v.f0 == 4) = false := by first | simpa using h8 | (simp; omega)
    have z43 : (v.f0 != 4) = true := by first | simpa using h8 | (simp; omega)
    have z81 : decide (v.f0 = 8) = true := decide_eq_true (by first | exact h8 | omega)
    have z82 : (v.f0 == 8) = true := by first | simpa using h8 | (simp; omega)
    have z83 : (v.f0 != 8) = false := by first | simpa using h8 | (simp; omega)
    have HC := Aside0.mk (sealed_c l (isB l n) v OL.out HS.out (cL := cL) (Kd.C_below HL.out b0) (HV.out.below b0))
    clear b0 hk h8
    go_enter Try.func43, Try.ntmps43
    go_wp2_with fail
    refine HC.out.mono ?_
    rintro e w1 ⟨rfl, hb⟩
    have B1 := Aside0.mk (chain B0.out hb)
    go_wp2
    go_ret
    exact ⟨by rw [HN.out]; rfl, B1.out⟩
  by_cases h4 : v.f0 = 4
  · have HN : Aside0 (o = v.f8.all (fun k => isB l n k dynT)) := ⟨by rw [HQ.out, if_neg h8, if_pos h4]⟩
    have z11 : decide (v.f0 = 1) = false := decide_eq_false (by first | exact h4 | omega)
    have z12 : (v.f0 == 1) = false := by first | simpa using h4 | (simp; omega)
    have z13 : (v.f0 != 1) = true := by first | simpa using h4 | (simp; omega)
    have z21 : decide (v.f0 = 2) = false := decide_eq_false (by first | exact h4 | omega)
    have z22 : (v.f0 == 2) = false := by first | simpa using h4 | (simp; omega)
    have z23 : (v.f0 != 2) = true := by first | simpa using h4 | (simp; omega)
    have z31 : decide (v.f0 = 3) = false := decide_eq_false (by first | exact h4 | omega)
    have z32 : (v.f0 == 3) = false := by first | simpa using h4 | (simp; omega)
    have z33 : (v.f0 != 3) = true := by first | simpa using h4 | (simp; omega)
    have z41 : decide (v.f0 = 4) = true := decide_eq_true (by first | exact h4 | omega)
    have z42 : (v.f0 == 4) = true := by first | simpa using h4 | (simp; omega)
    have z43 : (v.f0 != 4) = false := by first | simpa using h4 | (simp; omega)
    have z81 : decide (v.f0 = 8) = false := decide_eq_false (by first | exact h4 | omega)
    have z82 : (v.f0 == 8) = false := by first | simpa using h4 | (simp; omega)
    have z83 : (v.f0 != 8) = true := by first | simpa using h4 | (simp; omega)
    have L8 := OV.out.parts.2.2.2.1
    clear hk HQ h4 h8
    go_enter Try.func43, Try.ntmps43
    go_wp2_with fail
    clear t0 t1 t2 t3 t4 lt
    generalize hX : (w.alloc _).alloc _ = w1 at *
    clear hX
    go_wp2_with fail
    go_loopg [8] v.f8.length (fun kq v8 w' => ∃ (i : Nat), v8 = .int .i64 i ∧ kq + i = v.f8.length ∧ Aside0 (∀ j (hj : j < v.f8.length), j < i → isB l n v.f8[j] dynT = true) ∧ Below w1.heap.size w1 w')
    case atStart => exact ⟨0, rfl, rfl, ⟨fun j _ h => absurd h (Nat.not_lt_zero _)⟩, Below.refl _ _⟩
    case round =>
      obtain ⟨i, rfl, hk, HA, br⟩ := hrel
      by_cases hi : i < v.f8.length
      · obtain ⟨k1, rfl⟩ : ∃ k1, gk = k1 + 1 := ⟨gk - 1, by omega⟩
        have ci : decide ((i : Int) < (v.f8.length : Int)) = true := decide_eq_true (by omega)
        have ci3 : decide (i < v.f8.length) = true := decide_eq_true hi
        have i0 : (0 : Int) ≤ (i : Int) := by omega
        have i1 : (i : Int) < (v.f8.length : Int) := by omega
        obtain ⟨ad, X6, e6, X7, e7, X8, e8, hA, fx, x0, x1, x2, x3, x4, x5, x6, x7, x8, x9⟩ := velt (Kd.C_F heapVl ((HV.out.below B0.out).below br).2.2.2.2.2) i hi
        subst hA
        have HX := Aside0.mk fx.rv
        have HSI := Aside0.mk (HS.out v.f8[i] (List.getElem_mem hi))
        have HLR := Aside0.mk (Kd.C_below (Kd.C_below HL.out B0.out) br)
        replace v9 := cell_up br v9
        replace v0 := cell_up br v0
        have HK := Aside0.mk hk
        have b2 := chain B0.out br
        have BR := Aside0.mk br
        clear hk fx v1 v2 v3 v4 v5 v6 v7 v8
        have HA1 : Aside0 (isB l n v.f8[i] dynT = true → ∀ j (hj : j < v.f8.length), j < i + 1 → isB l n v.f8[j] dynT = true) := ⟨fun hq j hj hji => by rcases Nat.lt_succ_iff_lt_or_eq.1 hji with h | rfl; exact HA.out j hj h; exact hq⟩
        have HF : Aside0 (isB l n v.f8[i] dynT = false → o = false) := ⟨fun hq => by rw [HN.out]; exact all_not hi hq⟩
        generalize v.f8[i] = y at *
        cases hq : isB l n y dynT with
        | true =>
          have HQI := Aside0.mk hq
          have HA2 := Aside0.mk (HA1.out hq)
          clear hq HA1 HF br
          go_wp2_with fail
          refine wp_region_held_drew (S := (fun w' => Below wr.heap.size wr w' ∧ w'.cell? ⟨w.heap.size, 0, none⟩ = some (.int .i64 v.f0) ∧ w'.cell? ⟨w.heap.size, 9, none⟩ = some (.slice (some ad) v.f8.length c8) ∧ w'.cell? (ad.add (i * 10)) = some (.int .i64 y.f0) ∧ w'.cell? ⟨(ad.add (i * 10)).block, (ad.add (i * 10)).off + 1, none⟩ = some (.int .i64 y.f1) ∧ w'.cell? ⟨(ad.add (i * 10)).block, (ad.add (i * 10)).off + 2, none⟩ = some (.int .i64 y.f2) ∧ w'.cell? ⟨(ad.add (i * 10)).block, (ad.add (i * 10)).off + 3, none⟩ = some (.bool y.f3) ∧ w'.cell? ⟨(ad.add (i * 10)).block, (ad.add (i * 10)).off + 4, none⟩ = some (.string y.f4) ∧ w'.cell? ⟨(ad.add (i * 10)).block, (ad.add (i * 10)).off + 5, none⟩ = some (.string y.f5.f0) ∧ w'.cell? ⟨(ad.add (i * 10)).block, (ad.add (i * 10)).off + 6, none⟩ = some (.int .i64 y.f5.f1) ∧ w'.cell? ⟨(ad.add (i * 10)).block, (ad.add (i * 10)).off + 7, none⟩ = some (.slice X6 y.f6.length e6) ∧ w'.cell? ⟨(ad.add (i * 10)).block, (ad.add (i * 10)).off + 8, none⟩ = some (.slice X7 y.f7.length e7) ∧ w'.cell? ⟨(ad.add (i * 10)).block, (ad.add (i * 10)).off + 9, none⟩ = some (.slice X8 y.f8.length e8))) (by kernel_rfl) ?_ (fun hHeld => ?_)
          · (try dsimp only)
            ((refine and_of (fun hB_ => ⟨cell_up hB_ v0, cell_up hB_ v9, cell_up hB_ x0, cell_up hB_ x1, cell_up hB_ x2, cell_up hB_ x3, cell_up hB_ x4, cell_up hB_ x5, cell_up hB_ x6, cell_up hB_ x7, cell_up hB_ x8, cell_up hB_ x9⟩) ?_; first | (with_reducible exact (Below.refl _ _).drew) | (with_reducible exact Below.refl _ _) | (with_reducible exact below_call' (And.left (by assumption)) (by assumption)) | (with_reducible exact And.left (by assumption))))
          (first | (refine take_held (i := 0) (d := (some 126)) (v := ?_) rfl rfl (by kernel_rfl) (by kernel_rfl) (by kernel_rfl) (fun _ _ _ h => h) (Or.inl ⟨by rfl, ?_⟩) (by assumption) ?_; rotate_left 1; focus ((intro w hSw; (try dsimp only at hSw); first | (go_simp; done) | (go_simp; with_reducible rfl)); done); (try simp only [Act.put, List.setIfInBounds_toArray, List.set_cons_zero, List.set_cons_succ])))
          (try simp only [Act.put, List.setIfInBounds_toArray, List.set_cons_zero, List.set_cons_succ])
          (first | (refine take_held (i := 1) (d := (some 127)) (v := ?_) rfl rfl (by kernel_rfl) (by kernel_rfl) (by kernel_rfl) (fun _ _ _ h => h) (Or.inl ⟨by rfl, ?_⟩) (by assumption) ?_; rotate_left 1; focus ((intro w hSw; (try dsimp only at hSw); first | (go_simp; done) | (go_simp; with_reducible rfl)); done); (try simp only [Act.put, List.setIfInBounds_toArray, List.set_cons_zero, List.set_cons_succ])))
          (try simp only [Act.put, List.setIfInBounds_toArray, List.set_cons_zero, List.set_cons_succ])
          (first | (refine take_held (i := 2) (d := (some 128)) (v := ?_) rfl rfl (by kernel_rfl) (by kernel_rfl) (by kernel_rfl) (fun _ _ _ h => h) (Or.inl ⟨by rfl, ?_⟩) (by assumption) ?_; rotate_left 1; focus ((intro w hSw; (try dsimp only at hSw); first | (go_simp; done) | (go_simp; with_reducible rfl)); done); (try simp only [Act.put, List.setIfInBounds_toArray, List.set_cons_zero, List.set_cons_succ])))
          (try simp only [Act.put, List.setIfInBounds_toArray, List.set_cons_zero, List.set_cons_succ])
          (first | (refine take_held (i := 3) (d := (some 129)) (v := ?_) rfl rfl (by kernel_rfl) (by kernel_rfl) (by kernel_rfl) (fun _ _ _ h => h) (Or.inl ⟨by rfl, ?_⟩) (by assumption) ?_; rotate_left 1; focus ((intro w hSw; (try dsimp only at hSw); first | (go_simp; done) | (go_simp; with_reducible rfl)); done); (try simp only [Act.put, List.setIfInBounds_toArray, List.set_cons_zero, List.set_cons_succ])))
          (try simp only [Act.put, List.setIfInBounds_toArray, List.set_cons_zero, List.set_cons_succ])
          (first | (refine take_held (i := 4) (d := (some 130)) (v := ?_) rfl rfl (by kernel_rfl) (by kernel_rfl) (by kernel_rfl) (fun _ _ _ h => h) (Or.inl ⟨by rfl, ?_⟩) (by assumption) ?_; rotate_left 1; focus ((intro w hSw; (try dsimp only at hSw); first | (go_simp; done) | (go_simp; with_reducible rfl)); done); (try simp only [Act.put, List.setIfInBounds_toArray, List.set_cons_zero, List.set_cons_succ])))
          (try simp only [Act.put, List.setIfInBounds_toArray, List.set_cons_zero, List.set_cons_succ])
          (first | (refine take_held (i := 5) (d := (some 131)) (v := ?_) rfl rfl (by kernel_rfl) (by kernel_rfl) (by kernel_rfl) (fun _ _ _ h => h) (Or.inl ⟨by rfl, ?_⟩) (by assumption) ?_; rotate_left 1; focus ((intro w hSw; (try dsimp only at hSw); first | (go_simp; done) | (go_simp; with_reducible rfl)); done); (try simp only [Act.put, List.setIfInBounds_toArray, List.set_cons_zero, List.set_cons_succ])))
          (try simp only [Act.put, List.setIfInBounds_toArray, List.set_cons_zero, List.set_cons_succ])
          (first
            | (refine wpAnyH_ready (rs := [6]) (by kernel_rfl) (by simp) ?_; refine AllReadyH.cons (o := _) rfl (fun K hK => ?_) AllReadyH.nil; go_simp; (go_at_call 52; refine (dyn_c).mono ?_; rintro e_ wD ⟨rfl, hbD⟩); (try go_wp2_with fail); refine hK.out _ _ (by (try dsimp only); ((refine and_of (fun hB_ => ⟨cell_up hB_ v0, cell_up hB_ v9, cell_up hB_ x0, cell_up hB_ x1, cell_up hB_ x2, cell_up hB_ x3, cell_up hB_ x4, cell_up hB_ x5, cell_up hB_ x6, cell_up hB_ x7, cell_up hB_ x8, cell_up hB_ x9⟩) ?_; first | (with_reducible exact (Below.refl _ _).drew) | (with_reducible exact Below.refl _ _) | (with_reducible exact below_call' (And.left (by assumption)) (by assumption)) | (with_reducible exact And.left (by assumption))))) ?_; clear hHeld hK K; intro hHeld; (try simp only [Act.put, List.setIfInBounds_toArray, List.set_cons_zero, List.set_cons_succ])))
          (first
            | (refine wpAnyH_ready (rs := [7]) (by kernel_rfl) (by simp) ?_; refine AllReadyH.cons (o := _) rfl (fun K hK => ?_) AllReadyH.nil; go_simp; (go_at_call 43; refine (HSI.out _ okt_dyn _ _ _ _ _ _ _ _ none 0 none 0 _ (Kd.C_below HLR.out (And.left (by assumption))) (HX.out.below (And.left (by assumption))) (rt_dyn _)).mono ?_; rw [HQI.out]; rintro e_ wA ⟨rfl, hbA⟩); (try go_wp2_with fail); refine hK.out _ _ (by (try dsimp only); ((refine and_of (fun hB_ => ⟨cell_up hB_ v0, cell_up hB_ v9, cell_up hB_ x0, cell_up hB_ x1, cell_up hB_ x2, cell_up hB_ x3, cell_up hB_ x4, cell_up hB_ x5, cell_up hB_ x6, cell_up hB_ x7, cell_up hB_ x8, cell_up hB_ x9⟩) ?_; first | (with_reducible exact (Below.refl _ _).drew) | (with_reducible exact Below.refl _ _) | (with_reducible exact below_call' (And.left (by assumption)) (by assumption)) | (with_reducible exact And.left (by assumption))))) ?_; clear hHeld hK K; intro hHeld; (try simp only [Act.put, List.setIfInBounds_toArray, List.set_cons_zero, List.set_cons_succ])))
          (first | (refine take_held (i := 8) (d := (some 134)) (v := ?_) rfl rfl (by kernel_rfl) (by kernel_rfl) (by kernel_rfl) (fun _ _ _ h => h) (Or.inl ⟨by rfl, ?_⟩) (by assumption) ?_; rotate_left 1; focus ((intro w hSw; (try dsimp only at hSw); first | (go_simp; done) | (go_simp; with_reducible rfl)); done); (try simp only [Act.put, List.setIfInBounds_toArray, List.set_cons_zero, List.set_cons_succ])))
          (try simp only [Act.put, List.setIfInBounds_toArray, List.set_cons_zero, List.set_cons_succ])
          (try simp only [Act.put, List.setIfInBounds_toArray, List.set_cons_zero, List.set_cons_succ])
          refine wpAnyH_done (by kernel_rfl) ?_ _
          have b3 := chain BR.out (below_call' hHeld.1 (Below.refl _ _))
          go_wp2
          go_roundg k1
          case measure => omega
          case rel => exact ⟨i + 1, (by first | rfl | (simp; done) | (push_cast; rfl)), by have := HK.out; omega, HA2, b3⟩
        | false =>
          have HQI := Aside0.mk hq
          have HF2 := Aside0.mk (HF.out hq)
          clear hq HA1 HF br
          go_wp2_with fail
          refine wp_region_held_drew (S := (fun w' => Below wr.heap.size wr w' ∧ w'.cell? ⟨w.heap.size, 0, none⟩ = some (.int .i64 v.f0) ∧ w'.cell? ⟨w.heap.size, 9, none⟩ = some (.slice (some ad) v.f8.length c8) ∧ w'.cell? (ad.add (i * 10)) = some (.int .i64 y.f0) ∧ w'.cell? ⟨(ad.add (i * 10)).block, (ad.add (i * 10)).off + 1, none⟩ = some (.int .i64 y.f1) ∧ w'.cell? ⟨(ad.add (i * 10)).block, (ad.add (i * 10)).off + 2, none⟩ = some (.int .i64 y.f2) ∧ w'.cell? ⟨(ad.add (i * 10)).block, (ad.add (i * 10)).off + 3, none⟩ = some (.bool y.f3) ∧ w'.cell? ⟨(ad.add (i * 10)).block, (ad.add (i * 10)).off + 4, none⟩ = some (.string y.f4) ∧ w'.cell? ⟨(ad.add (i * 10)).block, (ad.add (i * 10)).off + 5, none⟩ = some (.string y.f5.f0) ∧ w'.cell? ⟨(ad.add (i * 10)).block, (ad.add (i * 10)).off + 6, none⟩ = some (.int .i64 y.f5.f1) ∧ w'.cell? ⟨(ad.add (i * 10)).block, (ad.add (i * 10)).off + 7, none⟩ = some (.slice X6 y.f6.length e6) ∧ w'.cell? ⟨(ad.add (i * 10)).block, (ad.add (i * 10)).off + 8, none⟩ = some (.slice X7 y.f7.length e7) ∧ w'.cell? ⟨(ad.add (i * 10)).block, (ad.add (i * 10)).off + 9, none⟩ = some (.slice X8 y.f8.length e8))) (by kernel_rfl) ?_ (fun hHeld => ?_)
          · (try dsimp only)
            ((refine and_of (fun hB_ => ⟨cell_up hB_ v0, cell_up hB_ v9, cell_up hB_ x0, cell_up hB_ x1, cell_up hB_ x2, cell_up hB_ x3, cell_up hB_ x4, cell_up hB_ x5, cell_up hB_ x6, cell_up hB_ x7, cell_up hB_ x8, cell_up hB_ x9⟩) ?_; first | (with_reducible exact (Below.refl _ _).drew) | (with_reducible exact Below.refl _ _) | (with_reducible exact below_call' (And.left (by assumption)) (by assumption)) | (with_reducible exact And.left (by assumption))))
          (first | (refine take_held (i := 0) (d := (some 126)) (v := ?_) rfl rfl (by kernel_rfl) (by kernel_rfl) (by kernel_rfl) (fun _ _ _ h => h) (Or.inl ⟨by rfl, ?_⟩) (by assumption) ?_; rotate_left 1; focus ((intro w hSw; (try dsimp only at hSw); first | (go_simp; done) | (go_simp; with_reducible rfl)); done); (try simp only [Act.put, List.setIfInBounds_toArray, List.set_cons_zero, List.set_cons_succ])))
          (try simp only [Act.put, List.setIfInBounds_toArray, List.set_cons_zero, List.set_cons_succ])
          (first | (refine take_held (i := 1) (d := (some 127)) (v := ?_) rfl rfl (by kernel_rfl) (by kernel_rfl) (by kernel_rfl) (fun _ _ _ h => h) (Or.inl ⟨by rfl, ?_⟩) (by assumption) ?_; rotate_left 1; focus ((intro w hSw; (try dsimp only at hSw); first | (go_simp; done) | (go_simp; with_reducible rfl)); done); (try simp only [Act.put, List.setIfInBounds_toArray, List.set_cons_zero, List.set_cons_succ])))
          (try simp only [Act.put, List.setIfInBounds_toArray, List.set_cons_zero, List.set_cons_succ])
          (first | (refine take_held (i := 2) (d := (some 128)) (v := ?_) rfl rfl (by kernel_rfl) (by kernel_rfl) (by kernel_rfl) (fun _ _ _ h => h) (Or.inl ⟨by rfl, ?_⟩) (by assumption) ?_; rotate_left 1; focus ((intro w hSw; (try dsimp only at hSw); first | (go_simp; done) | (go_simp; with_reducible rfl)); done); (try simp only [Act.put, List.setIfInBounds_toArray, List.set_cons_zero, List.set_cons_succ])))
          (try simp only [Act.put, List.setIfInBounds_toArray, List.set_cons_zero, List.set_cons_succ])
          (first | (refine take_held (i := 3) (d := (some 129)) (v := ?_) rfl rfl (by kernel_rfl) (by kernel_rfl) (by kernel_rfl) (fun _ _ _ h => h) (Or.inl ⟨by rfl, ?_⟩) (by assumption) ?_; rotate_left 1; focus ((intro w hSw; (try dsimp only at hSw); first | (go_simp; done) | (go_simp; with_reducible rfl)); done); (try simp only [Act.put, List.setIfInBounds_toArray, List.set_cons_zero, List.set_cons_succ])))
          (try simp only [Act.put, List.setIfInBounds_toArray, List.set_cons_zero, List.set_cons_succ])
          (first | (refine take_held (i := 4) (d := (some 130)) (v := ?_) rfl rfl (by kernel_rfl) (by kernel_rfl) (by kernel_rfl) (fun _ _ _ h => h) (Or.inl ⟨by rfl, ?_⟩) (by assumption) ?_; rotate_left 1; focus ((intro w hSw; (try dsimp only at hSw); first | (go_simp; done) | (go_simp; with_reducible rfl)); done); (try simp only [Act.put, List.setIfInBounds_toArray, List.set_cons_zero, List.set_cons_succ])))
          (try simp only [Act.put, List.setIfInBounds_toArray, List.set_cons_zero, List.set_cons_succ])
          (first | (refine take_held (i := 5) (d := (some 131)) (v := ?_) rfl rfl (by kernel_rfl) (by kernel_rfl) (by kernel_rfl) (fun _ _ _ h => h) (Or.inl ⟨by rfl, ?_⟩) (by assumption) ?_; rotate_left 1; focus ((intro w hSw; (try dsimp only at hSw); first | (go_simp; done) | (go_simp; with_reducible rfl)); done); (try simp only [Act.put, List.setIfInBounds_toArray, List.set_cons_zero, List.set_cons_succ])))
          (try simp only [Act.put, List.setIfInBounds_toArray, List.set_cons_zero, List.set_cons_succ])
          (first
            | (refine wpAnyH_ready (rs := [6]) (by kernel_rfl) (by simp) ?_; refine AllReadyH.cons (o := _) rfl (fun K hK => ?_) AllReadyH.nil; go_simp; (go_at_call 52; refine (dyn_c).mono ?_; rintro e_ wD ⟨rfl, hbD⟩); (try go_wp2_with fail); refine hK.out _ _ (by (try dsimp only); ((refine and_of (fun hB_ => ⟨cell_up hB_ v0, cell_up hB_ v9, cell_up hB_ x0, cell_up hB_ x1, cell_up hB_ x2, cell_up hB_ x3, cell_up hB_ x4, cell_up hB_ x5, cell_up hB_ x6, cell_up hB_ x7, cell_up hB_ x8, cell_up hB_ x9⟩) ?_; first | (with_reducible exact (Below.refl _ _).drew) | (with_reducible exact Below.refl _ _) | (with_reducible exact below_call' (And.left (by assumption)) (by assumption)) | (with_reducible exact And.left (by assumption))))) ?_; clear hHeld hK K; intro hHeld; (try simp only [Act.put, List.setIfInBounds_toArray, List.set_cons_zero, List.set_cons_succ])))
          (first
            | (refine wpAnyH_ready (rs := [7]) (by kernel_rfl) (by simp) ?_; refine AllReadyH.cons (o := _) rfl (fun K hK => ?_) AllReadyH.nil; go_simp; (go_at_call 43; refine (HSI.out _ okt_dyn _ _ _ _ _ _ _ _ none 0 none 0 _ (Kd.C_below HLR.out (And.left (by assumption))) (HX.out.below (And.left (by assumption))) (rt_dyn _)).mono ?_; rw [HQI.out]; rintro e_ wA ⟨rfl, hbA⟩); (try go_wp2_with fail); refine hK.out _ _ (by (try dsimp only); ((refine and_of (fun hB_ => ⟨cell_up hB_ v0, cell_up hB_ v9, cell_up hB_ x0, cell_up hB_ x1, cell_up hB_ x2, cell_up hB_ x3, cell_up hB_ x4, cell_up hB_ x5, cell_up hB_ x6, cell_up hB_ x7, cell_up hB_ x8, cell_up hB_ x9⟩) ?_; first | (with_reducible exact (Below.refl _ _).drew) | (with_reducible exact Below.refl _ _) | (with_reducible exact below_call' (And.left (by assumption)) (by assumption)) | (with_reducible exact And.left (by assumption))))) ?_; clear hHeld hK K; intro hHeld; (try simp only [Act.put, List.setIfInBounds_toArray, List.set_cons_zero, List.set_cons_succ])))
          (first | (refine take_held (i := 8) (d := (some 134)) (v := ?_) rfl rfl (by kernel_rfl) (by kernel_rfl) (by kernel_rfl) (fun _ _ _ h => h) (Or.inl ⟨by rfl, ?_⟩) (by assumption) ?_; rotate_left 1; focus ((intro w hSw; (try dsimp only at hSw); first | (go_simp; done) | (go_simp; with_reducible rfl)); done); (try simp only [Act.put, List.setIfInBounds_toArray, List.set_cons_zero, List.set_cons_succ])))
          (try simp only [Act.put, List.setIfInBounds_toArray, List.set_cons_zero, List.set_cons_succ])
          (try simp only [Act.put, List.setIfInBounds_toArray, List.set_cons_zero, List.set_cons_succ])
          refine wpAnyH_done (by kernel_rfl) ?_ _
          have b3 := chain b2 (below_call' hHeld.1 (Below.refl _ _))
          go_wp2
          go_ret
          exact ⟨by rw [HF2.out]; rfl, b3⟩
      · have cn : decide ((i : Int) < (v.f8.length : Int)) = false := decide_eq_false (by omega)
        have cn2 : decide (i < v.f8.length) = false := decide_eq_false hi
        have HO : Aside0 (o = true) := ⟨by rw [HN.out]; exact all_all (fun j hj => HA.out j hj (by omega))⟩
        replace v9 := cell_up br v9
        replace v0 := cell_up br v0
        have b2 := chain B0.out br
        clear v1 v2 v3 v4 v5 v6 v7 v8
        go_wp2
        go_ret
        exact ⟨by rw [HO.out]; rfl, b2⟩
  have HN0 : Aside0 (o = (decide (v.f0 = 1) || (decide (v.f0 = 2) || (decide (v.f0 = 3) || funB v)))) := ⟨by rw [HQ.out, if_neg h8, if_neg h4]⟩
  clear HQ
  by_cases hz : v.f0 = 1
  · have HN : Aside0 (o = true) := ⟨by rw [HN0.out, hz]; rfl⟩
    have z11 : decide (v.f0 = 1) = true := decide_eq_true (by first | exact hz | omega)
    have z12 : (v.f0 == 1) = true := by first | simpa using hz | (simp; omega)
    have z13 : (v.f0 != 1) = false := by first | simpa using hz | (simp; omega)
    have z21 : decide (v.f0 = 2) = false := decide_eq_false (by first | exact hz | omega)
    have z22 : (v.f0 == 2) = false := by first | simpa using hz | (simp; omega)
    have z23 : (v.f0 != 2) = true := by first | simpa using hz | (simp; omega)
    have z31 : decide (v.f0 = 3) = false := decide_eq_false (by first | exact hz | omega)
    have z32 : (v.f0 == 3) = false := by first | simpa using hz | (simp; omega)
    have z33 : (v.f0 != 3) = true := by first | simpa using hz | (simp; omega)
    have z41 : decide (v.f0 = 4) = false := decide_eq_false (by first | exact hz | omega)
    have z42 : (v.f0 == 4) = false := by first | simpa using hz | (simp; omega)
    have z43 : (v.f0 != 4) = true := by first | simpa using hz | (simp; omega)
    have z81 : decide (v.f0 = 8) = false := decide_eq_false (by first | exact hz | omega)
    have z82 : (v.f0 == 8) = false := by first | simpa using hz | (simp; omega)
    have z83 : (v.f0 != 8) = true := by first | simpa using hz | (simp; omega)
    clear hk b0 hz h8 h4
    go_enter Try.func43, Try.ntmps43
    go_wp2_with fail
    clear t0 t1 t2 t3 t4 lt
    generalize hX : (w.alloc _).alloc _ = w1 at *
    clear hX
    go_wp2_with fail
    go_loopg [8] v.f8.length (fun kq v8 w' => v8 = .int .i64 0 ∧ Below w1.heap.size w1 w')
    case atStart => exact ⟨rfl, Below.refl _ _⟩
    case round =>
      obtain ⟨rfl, br⟩ := hrel
      replace v0 := cell_up br v0
      replace v1 := cell_up br v1
      replace v2 := cell_up br v2
      replace v3 := cell_up br v3
      replace v4 := cell_up br v4
      replace v5 := cell_up br v5
      replace v6 := cell_up br v6
      replace v7 := cell_up br v7
      replace v8 := cell_up br v8
      replace v9 := cell_up br v9
      have b2 := chain B0.out br
      have HV2 := Aside0.mk b2
      have hl := Nat.eq_zero_or_pos v.f8.length
      rcases hl with hl | hl
      · have m1 : decide ((0 : Int) < (v.f8.length : Int)) = false := decide_eq_false (by omega)
        have m2 : decide (0 < v.f8.length) = false := decide_eq_false (by omega)
        clear hl
        go_wp2
        go_ret
        exact ⟨by rw [HN.out]; rfl, HV2.out⟩
      · have m1 : decide ((0 : Int) < (v.f8.length : Int)) = true := decide_eq_true (by omega)
        have m2 : decide (0 < v.f8.length) = true := decide_eq_true (by omega)
        clear hl
        go_wp2
        go_ret
        exact ⟨by rw [HN.out]; rfl, HV2.out⟩
  have h1 := hz
  clear hz
  by_cases hz : v.f0 = 2
  · have HN : Aside0 (o = true) := ⟨by rw [HN0.out, hz]; rfl⟩
    have z11 : decide (v.f0 = 1) = false := decide_eq_false (by first | exact hz | omega)
    have z12 : (v.f0 == 1) = false := by first | simpa using hz | (simp; omega)
    have z13 : (v.f0 != 1) = true := by first | simpa using hz | (simp; omega)
    have z21 : decide (v.f0 = 2) = true := decide_eq_true (by first | exact hz | omega)
    have z22 : (v.f0 == 2) = true := by first | simpa using hz | (simp; omega)
    have z23 : (v.f0 != 2) = false := by first | simpa using hz | (simp; omega)
    have z31 : decide (v.f0 = 3) = false := decide_eq_false (by first | exact hz | omega)
    have z32 : (v.f0 == 3) = false := by first | simpa using hz | (simp; omega)
    have z33 : (v.f0 != 3) = true := by first | simpa using hz | (simp; omega)
    have z41 : decide (v.f0 = 4) = false := decide_eq_false (by first | exact hz | omega)
    have z42 : (v.f0 == 4) = false := by first | simpa using hz | (simp; omega)
    have z43 : (v.f0 != 4) = true := by first | simpa using hz | (simp; omega)
    have z81 : decide (v.f0 = 8) = false := decide_eq_false (by first | exact hz | omega)
    have z82 : (v.f0 == 8) = false := by first | simpa using hz | (simp; omega)
    have z83 : (v.f0 != 8) = true := by first | simpa using hz | (simp; omega)
    clear hk b0 hz h8 h4
    go_enter Try.func43, Try.ntmps43
    go_wp2_with fail
    clear t0 t1 t2 t3 t4 lt
    generalize hX : (w.alloc _).alloc _ = w1 at *
    clear hX
    go_wp2_with fail
    go_loopg [8] v.f8.length (fun kq v8 w' => v8 = .int .i64 0 ∧ Below w1.heap.size w1 w')
    case atStart => exact ⟨rfl, Below.refl _ _⟩
    case round =>
      obtain ⟨rfl, br⟩ := hrel
      replace v0 := cell_up br v0
      replace v1 := cell_up br v1
      replace v2 := cell_up br v2
      replace v3 := cell_up br v3
      replace v4 := cell_up br v4
      replace v5 := cell_up br v5
      replace v6 := cell_up br v6
      replace v7 := cell_up br v7
      replace v8 := cell_up br v8
      replace v9 := cell_up br v9
      have b2 := chain B0.out br
      have HV2 := Aside0.mk b2
      have hl := Nat.eq_zero_or_pos v.f8.length
      rcases hl with hl | hl
      · have m1 : decide ((0 : Int) < (v.f8.length : Int)) = false := decide_eq_false (by omega)
        have m2 : decide (0 < v.f8.length) = false := decide_eq_false (by omega)
        clear hl
        go_wp2
        go_ret
        exact ⟨by rw [HN.out]; rfl, HV2.out⟩
      · have m1 : decide ((0 : Int) < (v.f8.length : Int)) = true := decide_eq_true (by omega)
        have m2 : decide (0 < v.f8.length) = true := decide_eq_true (by omega)
        clear hl
        go_wp2
        go_ret
        exact ⟨by rw [HN.out]; rfl, HV2.out⟩
  have h2 := hz
  clear hz
  by_cases hz : v.f0 = 3
  · have HN : Aside0 (o = true) := ⟨by rw [HN0.out, hz]; rfl⟩
    have z11 : decide (v.f0 = 1) = false := decide_eq_false (by first | exact hz | omega)
    have z12 : (v.f0 == 1) = false := by first | simpa using hz | (simp; omega)
    have z13 : (v.f0 != 1) = true := by first | simpa using hz | (simp; omega)
    have z21 : decide (v.f0 = 2) = false := decide_eq_false (by first | exact hz | omega)
    have z22 : (v.f0 == 2) = false := by first | simpa using hz | (simp; omega)
    have z23 : (v.f0 != 2) = true := by first | simpa using hz | (simp; omega)
    have z31 : decide (v.f0 = 3) = true := decide_eq_true (by first | exact hz | omega)
    have z32 : (v.f0 == 3) = true := by first | simpa using hz | (simp; omega)
    have z33 : (v.f0 != 3) = false := by first | simpa using hz | (simp; omega)
    have z41 : decide (v.f0 = 4) = false := decide_eq_false (by first | exact hz | omega)
    have z42 : (v.f0 == 4) = false := by first | simpa using hz | (simp; omega)
    have z43 : (v.f0 != 4) = true := by first | simpa using hz | (simp; omega)
    have z81 : decide (v.f0 = 8) = false := decide_eq_false (by first | exact hz | omega)
    have z82 : (v.f0 == 8) = false := by first | simpa using hz | (simp; omega)
    have z83 : (v.f0 != 8) = true := by first | simpa using hz | (simp; omega)
    clear hk b0 hz h8 h4
    go_enter Try.func43, Try.ntmps43
    go_wp2_with fail
    clear t0 t1 t2 t3 t4 lt
    generalize hX : (w.alloc _).alloc _ = w1 at *
    clear hX
    go_wp2_with fail
    go_loopg [8] v.f8.length (fun kq v8 w' => v8 = .int .i64 0 ∧ Below w1.heap.size w1 w')
    case atStart => exact ⟨rfl, Below.refl _ _⟩
    case round =>
      obtain ⟨rfl, br⟩ := hrel
      replace v0 := cell_up br v0
      replace v1 := cell_up br v1
      replace v2 := cell_up br v2
      replace v3 := cell_up br v3
      replace v4 := cell_up br v4
      replace v5 := cell_up br v5
      replace v6 := cell_up br v6
      replace v7 := cell_up br v7
      replace v8 := cell_up br v8
      replace v9 := cell_up br v9
      have b2 := chain B0.out br
      have HV2 := Aside0.mk b2
      have hl := Nat.eq_zero_or_pos v.f8.length
      rcases hl with hl | hl
      · have m1 : decide ((0 : Int) < (v.f8.length : Int)) = false := decide_eq_false (by omega)
        have m2 : decide (0 < v.f8.length) = false := decide_eq_false (by omega)
        clear hl
        go_wp2
        go_ret
        exact ⟨by rw [HN.out]; rfl, HV2.out⟩
      · have m1 : decide ((0 : Int) < (v.f8.length : Int)) = true := decide_eq_true (by omega)
        have m2 : decide (0 < v.f8.length) = true := decide_eq_true (by omega)
        clear hl
        go_wp2
        go_ret
        exact ⟨by rw [HN.out]; rfl, HV2.out⟩
  have h3 := hz
  clear hz
  have HN : Aside0 (o = funB v) := ⟨by rw [HN0.out, decide_eq_false h1, decide_eq_false h2, decide_eq_false h3]; rfl⟩
  have z11 : decide (v.f0 = 1) = false := decide_eq_false (by first | exact h1 | omega)
  have z12 : (v.f0 == 1) = false := by first | simpa using h1 | (simp; omega)
  have z13 : (v.f0 != 1) = true := by first | simpa using h1 | (simp; omega)
  have z21 : decide (v.f0 = 2) = false := decide_eq_false (by first | exact h2 | omega)
  have z22 : (v.f0 == 2) = false := by first | simpa using h2 | (simp; omega)
  have z23 : (v.f0 != 2) = true := by first | simpa using h2 | (simp; omega)
  have z31 : decide (v.f0 = 3) = false := decide_eq_false (by first | exact h3 | omega)
  have z32 : (v.f0 == 3) = false := by first | simpa using h3 | (simp; omega)
  have z33 : (v.f0 != 3) = true := by first | simpa using h3 | (simp; omega)
  have z41 : decide (v.f0 = 4) = false := decide_eq_false (by first | exact h4 | omega)
  have z42 : (v.f0 == 4) = false := by first | simpa using h4 | (simp; omega)
  have z43 : (v.f0 != 4) = true := by first | simpa using h4 | (simp; omega)
  have z81 : decide (v.f0 = 8) = false := decide_eq_false (by first | exact h8 | omega)
  have z82 : (v.f0 == 8) = false := by first | simpa using h8 | (simp; omega)
  have z83 : (v.f0 != 8) = true := by first | simpa using h8 | (simp; omega)
  clear hk b0 h1 h2 h3 h4 h8
  go_enter Try.func43, Try.ntmps43
  go_wp2_with fail
  clear t0 t1 t2 t3 t4 lt
  generalize hX : (w.alloc _).alloc _ = w1 at *
  clear hX
  go_wp2_with fail
  go_loopg [8] v.f8.length (fun kq v8 w' => v8 = .int .i64 0 ∧ Below w1.heap.size w1 w')
  case atStart => exact ⟨rfl, Below.refl _ _⟩
  case round =>
    obtain ⟨rfl, br⟩ := hrel
    replace v0 := cell_up br v0
    replace v1 := cell_up br v1
    replace v2 := cell_up br v2
    replace v3 := cell_up br v3
    replace v4 := cell_up br v4
    replace v5 := cell_up br v5
    replace v6 := cell_up br v6
    replace v7 := cell_up br v7
    replace v8 := cell_up br v8
    replace v9 := cell_up br v9
    have b2 := chain B0.out br
    have HV2 := Aside0.mk b2
    have hl := Nat.eq_zero_or_pos v.f8.length
    rcases hl with hl | hl
    · have m1 : decide ((0 : Int) < (v.f8.length : Int)) = false := decide_eq_false (by omega)
      have m2 : decide (0 < v.f8.length) = false := decide_eq_false (by omega)
      clear hl
      go_wp2_with fail
      refine (rfun_c v).mono ?_
      rintro e w3 ⟨rfl, hb⟩
      have B3 := Aside0.mk (chain HV2.out hb)
      go_wp2
      go_ret
      exact ⟨by rw [HN.out]; rfl, B3.out⟩
    · have m1 : decide ((0 : Int) < (v.f8.length : Int)) = true := decide_eq_true (by omega)
      have m2 : decide (0 < v.f8.length) = true := decide_eq_true (by omega)
      clear hl
      go_wp2_with fail
      refine (rfun_c v).mono ?_
      rintro e w3 ⟨rfl, hb⟩
      have B3 := Aside0.mk (chain HV2.out hb)
      go_wp2
      go_ret
      exact ⟨by rw [HN.out]; rfl, B3.out⟩
theorem is_c (l : List Se) (ol : Okl l) : ∀ (n : Nat) (v : Vl), SizeOf.sizeOf v < n → Okv v → IsC l (isB l n) v
  | 0, _, h, _ => absurd h (Nat.not_lt_zero _)
  | n + 1, v, h, ov => fun t ot AL cL A6 c6 A7 c7 A8 c8 A3 c3 A4 c4 w hL hv ht => by
    have hs : ∀ y, y ∈ v.f8 → IsC l (isB l n) y := fun y hy => is_c l ol n y (by have := size_kids v y hy; omega) (ov.parts.2.2.2.2 y hy)
    by_cases k1 : t.f0 = 1
    · exact is_1 l n v t ol ov ot hs hL hv ht k1
    by_cases k2 : t.f0 = 2
    · exact is_2 l n v t ol ov ot hs hL hv ht k2
    by_cases k3 : t.f0 = 3
    · exact is_3 l n v t ol ov ot hs hL hv ht k3
    by_cases k7 : t.f0 = 7
    · exact is_7 l n v t ol ov ot hs hL hv ht k7
    by_cases k9 : t.f0 = 9
    · exact is_9 l n v t ol ov ot hs hL hv ht k9
    by_cases k8 : t.f0 = 8
    · exact is_8 l n v t ol ov ot hs hL hv ht k8
    by_cases k4 : t.f0 = 4
    · exact is_4 l n v t ol ov ot hs hL hv ht k4
    by_cases k5 : t.f0 = 5
    · exact is_5 l n v t ol ov ot hs hL hv ht k5
    exact is_no l n v t ol ov ot hs hL hv ht k1 k2 k3 k7 k9 k8 k4 k5
end Go.Proofs.Ytnfnhjhnfdkinaa.PConvBack

/-
  ConvBack: texts of this claim, put together by a program of this session. No conditions beyond what each lemma says.
-/
import Derived.Test.YtnfnhjhnfdkinaazConvBack23
namespace Go.Proofs.Ytnfnhjhnfdkinaa.PConvBack
open Go.RowKit Go.Proofs.YtnfnhjhnfdkinaaW.Mine Go.Proofs.YtnfnhjhnfdkinaaW.PrintWords Go.Proofs.YtnfnhjhnfdkinaaW.PrintLast Go.Proofs.YtnfnhjhnfdkinaaW.PrintMore
attribute [local go_sem] max2_int min2_int max_two min_two max_three min_three max_four min_four
set_option linter.unusedVariables false
set_option linter.unusedSimpArgs false
theorem rsame_c (l m : List ByteArray) (hl : l.length ≤ 140737488351232) {A A' : Option Addr} {c c' : Nat} {w : World} (h : Kd.string.C w A l.length l) (hc : l.length ≤ c) (h' : Kd.string.C w A' m.length m) (hc' : m.length ≤ c') :
    Calls Try.prog 60 #[.slice A l.length c, .slice A' m.length c'] w (BOut w (eqTexts l m)) := by
  obtain ⟨k, hk⟩ := (labels_f l m hl).rounds
  exact (limbeckref01_Same.calls k A c l A' c' m _ w h hc h' hc' hk).mono fun e w' k => ⟨k.1, k.2.below⟩
set_option maxHeartbeats 16000000 in
set_option maxRecDepth 100000 in
theorem is_8 (l : List Se) (n : Nat) (v : Vl) (t : Ty) (ol : Okl l) (ov : Okv v) (ot : Okt t) (hs : ∀ y, y ∈ v.f8 → IsC l (isB l n) y) {AL A6 A7 A8 A3 A4 : Option Addr} {cL c6 c7 c8 c3 c4 : Nat} {w : World} (hL : kSe.C w AL l.length l) (hv : RV w v A6 c6 A7 c7 A8 c8) (ht : RT w t A3 c3 A4 c4) (hk : t.f0 = 8) :
    Calls Try.prog 43 #[.slice AL l.length cL, vv v A6 c6 A7 c7 A8 c8, tv t A3 c3 A4 c4] w (BOut w (isB l (n + 1) v t)) := by
  obtain ⟨⟨kV, kT⟩, b0⟩ := twob w (vcells v A6 c6 A7 c7 A8 c8) (tarr t A3 c3 A4 c4) 55 25
  obtain ⟨⟨v0, v1, v2, v3, v4, v5, v6, v7, v8, v9⟩, _, lv⟩ := ten kV
  obtain ⟨⟨t0, t1, t2, t3, t4⟩, _, lt⟩ := five kT
  have hq := isB_8 (l := l) (n := n) (v := v) hk
  generalize isB l (n + 1) v t = o at hq ⊢
  have HQ := Aside0.mk hq
  have OL := Aside0.mk ol
  have OV := Aside0.mk ov
  have OT := Aside0.mk ot
  have HS := Aside0.mk hs
  have HL := Aside0.mk hL
  have HV := Aside0.mk hv
  have HT := Aside0.mk ht
  have B0 := Aside0.mk b0
  clear hq ol ov ot hs hL hv ht kV kT
  have e11 : decide (t.f0 = 1) = false := decide_eq_false (by first | exact hk | omega)
  have e12 : (t.f0 == 1) = false := by first | simpa using hk | (simp; omega)
  have e13 : (t.f0 != 1) = true := by first | simpa using hk | (simp; omega)
  have e21 : decide (t.f0 = 2) = false := decide_eq_false (by first | exact hk | omega)
  have e22 : (t.f0 == 2) = false := by first | simpa using hk | (simp; omega)
  have e23 : (t.f0 != 2) = true := by first | simpa using hk | (simp; omega)
  have e31 : decide (t.f0 = 3) = false := decide_eq_false (by first | exact hk | omega)
  have e32 : (t.f0 == 3) = false := by first | simpa using hk | (simp; omega)
  have e33 : (t.f0 != 3) = true := by first | simpa using hk | (simp; omega)
  have e71 : decide (t.f0 = 7) = false := decide_eq_false (by first | exact hk | omega)
  have e72 : (t.f0 == 7) = false := by first | simpa using hk | (simp; omega)
  have e73 : (t.f0 != 7) = true := by first | simpa using hk | (simp; omega)
  have e91 : decide (t.f0 = 9) = false := decide_eq_false (by first | exact hk | omega)
  have e92 : (t.f0 == 9) = false := by first | simpa using hk | (simp; omega)
  have e93 : (t.f0 != 9) = true := by first | simpa using hk | (simp; omega)
  have e81 : decide (t.f0 = 8) = true := decide_eq_true (by first | exact hk | omega)
  have e82 : (t.f0 == 8) = true := by first | simpa using hk | (simp; omega)
  have e83 : (t.f0 != 8) = false := by first | simpa using hk | (simp; omega)
  have e41 : decide (t.f0 = 4) = false := decide_eq_false (by first | exact hk | omega)
  have e42 : (t.f0 == 4) = false := by first | simpa using hk | (simp; omega)
  have e43 : (t.f0 != 4) = true := by first | simpa using hk | (simp; omega)
  have e51 : decide (t.f0 = 5) = false := decide_eq_false (by first | exact hk | omega)
  have e52 : (t.f0 == 5) = false := by first | simpa using hk | (simp; omega)
  have e53 : (t.f0 != 5) = true := by first | simpa using hk | (simp; omega)
  by_cases h4 : v.f0 = 4
  · have HQ1 : Aside0 (o = if v.f7 = t.f3 ∧ v.f8.length = t.f4.length then allTwo (isB l n) v.f8 t.f4 else false) := ⟨by rw [HQ.out]; by_cases h : v.f7 = t.f3 ∧ v.f8.length = t.f4.length; rw [if_pos ⟨h4, h.1, h.2⟩, if_pos h]; rw [if_neg (fun h' => h h'.2), if_neg h]⟩
    have z1 : decide (v.f0 = 4) = true := decide_eq_true (by first | exact h4 | omega)
    have z2 : (v.f0 == 4) = true := by first | simpa using h4 | (simp; omega)
    have z3 : (v.f0 != 4) = false := by first | simpa using h4 | (simp; omega)
    have HC := Aside0.mk (rsame_c v.f7 t.f3 OV.out.parts.2.2.1 (HV.out.below b0).2.2.2.1 (HV.out.below b0).2.2.1 (HT.out.below b0).2.1 (HT.out.below b0).1)
    clear hk h4 b0 HQ
    go_enter Try.func43, Try.ntmps43
    go_wp2_with fail
    refine HC.out.mono ?_
    rintro e w1 ⟨rfl, hb⟩
    have b1 := chain B0.out hb
    replace v0 := cell_up hb v0
    replace v1 := cell_up hb v1
    replace v2 := cell_up hb v2
    replace v3 := cell_up hb v3
    replace v4 := cell_up hb v4
    replace v5 := cell_up hb v5
    replace v6 := cell_up hb v6
    replace v7 := cell_up hb v7
    replace v8 := cell_up hb v8
    replace v9 := cell_up hb v9
    replace t0 := cell_up hb t0
    replace t1 := cell_up hb t1
    replace t2 := cell_up hb t2
    replace t3 := cell_up hb t3
    replace t4 := cell_up hb t4
    have B1 := Aside0.mk b1
    clear b1 hb B0 HC
    cases he : eqTexts v.f7 t.f3 with
    | false =>
      have HN : Aside0 (o = false) := ⟨by rw [HQ1.out, if_neg (fun h => by rw [(texts_iff _ _).2 h.1] at he; cases he)]⟩
      clear he HQ1
      go_wp2
      go_ret
      exact ⟨by rw [HN.out]; rfl, B1.out⟩
    | true =>
      by_cases hn : v.f8.length = t.f4.length
      · have HN : Aside0 (o = allTwo (isB l n) v.f8 t.f4) := ⟨by rw [HQ1.out, if_pos ⟨(texts_iff _ _).1 he, hn⟩]⟩
        have n1 : decide ((v.f8.length : Int) = (t.f4.length : Int)) = true := decide_eq_true (by omega)
        have n2 : ((v.f8.length : Int) == (t.f4.length : Int)) = true := by simp; omega
        have n3 : ((v.f8.length : Int) != (t.f4.length : Int)) = false := by simp; omega
        have n4 : decide (v.f8.length = t.f4.length) = true := decide_eq_true hn
        have L8 := OV.out.parts.2.2.2.1
        have L4 := OT.out.l80
        have HEQ := Aside0.mk hn
        clear he HQ1
        go_wp2_with fail
        go_loopg [7] v.f8.length (fun kq v7 w' => ∃ (i : Nat), v7 = .int .i64 i ∧ kq + i = v.f8.length ∧ Aside0 (∀ j (hj : j < v.f8.length) (hj' : j < t.f4.length), j < i → isB l n v.f8[j] t.f4[j] = true) ∧ Below w1.heap.size w1 w')
        case atStart => exact ⟨0, rfl, rfl, ⟨fun j _ _ h => absurd h (Nat.not_lt_zero _)⟩, Below.refl _ _⟩
        case round =>
          obtain ⟨i, rfl, hk, HA, br⟩ := hrel
          by_cases hi : i < v.f8.length
          · obtain ⟨k1, rfl⟩ : ∃ k1, gk = k1 + 1 := ⟨gk - 1, by omega⟩
            have hi2 : i < t.f4.length := by omega
            have ci : decide ((i : Int) < (v.f8.length : Int)) = true := decide_eq_true (by omega)
            have ci2 : decide ((i : Int) < (t.f4.length : Int)) = true := decide_eq_true (by omega)
            have ci3 : decide (i < v.f8.length) = true := decide_eq_true hi
            have ci4 : decide (i < t.f4.length) = true := decide_eq_true hi2
            have i0 : (0 : Int) ≤ (i : Int) := by omega
            have i1 : (i : Int) < (v.f8.length : Int) := by omega
            have i2 : (i : Int) < (t.f4.length : Int) := by omega
            obtain ⟨ad, X6, e6, X7, e7, X8, e8, hA, fx, x0, x1, x2, x3, x4, x5, x6, x7, x8, x9⟩ := velt (Kd.C_F heapVl ((HV.out.below B1.out).below br).2.2.2.2.2) i hi
            obtain ⟨bd, Z3, g3, Z4, g4, hB, fy, y0, y1, y2, y3, y4⟩ := telt ((HT.out.below B1.out).below br).2.2.2 i hi2
            subst hA hB
            have HX := Aside0.mk fx.rv
            have HY := Aside0.mk fy
            have HSI := Aside0.mk (HS.out v.f8[i] (List.getElem_mem hi))
            have OTI := Aside0.mk (OT.out.all t.f4[i] (List.getElem_mem hi2))
            have HLR := Aside0.mk (Kd.C_below (Kd.C_below HL.out B1.out) br)
            replace v9 := cell_up br v9
            replace t4 := cell_up br t4
            have HK := Aside0.mk hk
            have b2 := chain B1.out br
            have BR := Aside0.mk br
            clear hk fx fy v0 v1 v2 v3 v4 v5 v6 v7 v8 t0 t1 t2 t3
            have HA1 : Aside0 (isB l n v.f8[i] t.f4[i] = true → ∀ j (hj : j < v.f8.length) (hj' : j < t.f4.length), j < i + 1 → isB l n v.f8[j] t.f4[j] = true) := ⟨fun hq j hj hj' hji => by rcases Nat.lt_succ_iff_lt_or_eq.1 hji with h | rfl; exact HA.out j hj hj' h; exact hq⟩
            have HF : Aside0 (isB l n v.f8[i] t.f4[i] = false → o = false) := ⟨fun hq => by rw [HN.out]; exact allTwo_not i hi hi2 hq⟩
            generalize v.f8[i] = y at *
            generalize t.f4[i] = z at *
            cases hq : isB l n y z with
            | true =>
              have HQI := Aside0.mk hq
              have HA2 := Aside0.mk (HA1.out hq)
              clear hq HA1 HF br
              go_wp2_with fail
              refine wp_region_held_drew (S := (fun w' => Below wr.heap.size wr w' ∧ w'.cell? ⟨w.heap.size, 9, none⟩ = some (.slice (some ad) v.f8.length c8) ∧ w'.cell? ⟨w.heap.size + 1, 4, none⟩ = some (.slice (some bd) t.f4.length c4) ∧ w'.cell? (ad.add (i * 10)) = some (.int .i64 y.f0) ∧ w'.cell? ⟨(ad.add (i * 10)).block, (ad.add (i * 10)).off + 1, none⟩ = some (.int .i64 y.f1) ∧ w'.cell? ⟨(ad.add (i * 10)).block, (ad.add (i * 10)).off + 2, none⟩ = some (.int .i64 y.f2) ∧ w'.cell? ⟨(ad.add (i * 10)).block, (ad.add (i * 10)).off + 3, none⟩ = some (.bool y.f3) ∧ w'.cell? ⟨(ad.add (i * 10)).block, (ad.add (i * 10)).off + 4, none⟩ = some (.string y.f4) ∧ w'.cell? ⟨(ad.add (i * 10)).block, (ad.add (i * 10)).off + 5, none⟩ = some (.string y.f5.f0) ∧ w'.cell? ⟨(ad.add (i * 10)).block, (ad.add (i * 10)).off + 6, none⟩ = some (.int .i64 y.f5.f1) ∧ w'.cell? ⟨(ad.add (i * 10)).block, (ad.add (i * 10)).off + 7, none⟩ = some (.slice X6 y.f6.length e6) ∧ w'.cell? ⟨(ad.add (i * 10)).block, (ad.add (i * 10)).off + 8, none⟩ = some (.slice X7 y.f7.length e7) ∧ w'.cell? ⟨(ad.add (i * 10)).block, (ad.add (i * 10)).off + 9, none⟩ = some (.slice X8 y.f8.length e8) ∧ w'.cell? (bd.add (i * 5)) = some (.int .i64 z.f0) ∧ w'.cell? ⟨(bd.add (i * 5)).block, (bd.add (i * 5)).off + 1, none⟩ = some (.int .i64 z.f1) ∧ w'.cell? ⟨(bd.add (i * 5)).block, (bd.add (i * 5)).off + 2, none⟩ = some (.string z.f2) ∧ w'.cell? ⟨(bd.add (i * 5)).block, (bd.add (i * 5)).off + 3, none⟩ = some (.slice Z3 z.f3.length g3) ∧ w'.cell? ⟨(bd.add (i * 5)).block, (bd.add (i * 5)).off + 4, none⟩ = some (.slice Z4 z.f4.length g4))) (by kernel_rfl) ?_ (fun hHeld => ?_)
              · (try dsimp only)
                ((refine and_of (fun hB_ => ⟨cell_up hB_ v9, cell_up hB_ t4, cell_up hB_ x0, cell_up hB_ x1, cell_up hB_ x2, cell_up hB_ x3, cell_up hB_ x4, cell_up hB_ x5, cell_up hB_ x6, cell_up hB_ x7, cell_up hB_ x8, cell_up hB_ x9, cell_up hB_ y0, cell_up hB_ y1, cell_up hB_ y2, cell_up hB_ y3, cell_up hB_ y4⟩) ?_; first | (with_reducible exact (Below.refl _ _).drew) | (with_reducible exact Below.refl _ _) | (with_reducible exact below_call' (And.left (by assumption)) (by assumption)) | (with_reducible exact And.left (by assumption))))
              (first | (refine take_held (i := 0) (d := (some 87)) (v := ?_) rfl rfl (by kernel_rfl) (by kernel_rfl) (by kernel_rfl) (fun _ _ _ h => h) (Or.inl ⟨by rfl, ?_⟩) (by assumption) ?_; rotate_left 1; focus ((intro w hSw; (try dsimp only at hSw); first | (go_simp; done) | (go_simp; with_reducible rfl)); done); (try simp only [Act.put, List.setIfInBounds_toArray, List.set_cons_zero, List.set_cons_succ])))
              (try simp only [Act.put, List.setIfInBounds_toArray, List.set_cons_zero, List.set_cons_succ])
              (first | (refine take_held (i := 1) (d := (some 88)) (v := ?_) rfl rfl (by kernel_rfl) (by kernel_rfl) (by kernel_rfl) (fun _ _ _ h => h) (Or.inl ⟨by rfl, ?_⟩) (by assumption) ?_; rotate_left 1; focus ((intro w hSw; (try dsimp only at hSw); first | (go_simp; done) | (go_simp; with_reducible rfl)); done); (try simp only [Act.put, List.setIfInBounds_toArray, List.set_cons_zero, List.set_cons_succ])))
              (try simp only [Act.put, List.setIfInBounds_toArray, List.set_cons_zero, List.set_cons_succ])
              (first | (refine take_held (i := 2) (d := (some 89)) (v := ?_) rfl rfl (by kernel_rfl) (by kernel_rfl) (by kernel_rfl) (fun _ _ _ h => h) (Or.inl ⟨by rfl, ?_⟩) (by assumption) ?_; rotate_left 1; focus ((intro w hSw; (try dsimp only at hSw); first | (go_simp; done) | (go_simp; with_reducible rfl)); done); (try simp only [Act.put, List.setIfInBounds_toArray, List.set_cons_zero, List.set_cons_succ])))
              (try simp only [Act.put, List.setIfInBounds_toArray, List.set_cons_zero, List.set_cons_succ])
              (first | (refine take_held (i := 3) (d := (some 90)) (v := ?_) rfl rfl (by kernel_rfl) (by kernel_rfl) (by kernel_rfl) (fun _ _ _ h => h) (Or.inl ⟨by rfl, ?_⟩) (by assumption) ?_; rotate_left 1; focus ((intro w hSw; (try dsimp only at hSw); first | (go_simp; done) | (go_simp; with_reducible rfl)); done); (try simp only [Act.put, List.setIfInBounds_toArray, List.set_cons_zero, List.set_cons_succ])))
              (try simp only [Act.put, List.setIfInBounds_toArray, List.set_cons_zero, List.set_cons_succ])
              (first | (refine take_held (i := 4) (d := (some 91)) (v := ?_) rfl rfl (by kernel_rfl) (by kernel_rfl) (by kernel_rfl) (fun _ _ _ h => h) (Or.inl ⟨by rfl, ?_⟩) (by assumption) ?_; rotate_left 1; focus ((intro w hSw; (try dsimp only at hSw); first | (go_simp; done) | (go_simp; with_reducible rfl)); done); (try simp only [Act.put, List.setIfInBounds_toArray, List.set_cons_zero, List.set_cons_succ])))
              (try simp only [Act.put, List.setIfInBounds_toArray, List.set_cons_zero, List.set_cons_succ])
              (first | (refine take_held (i := 5) (d := (some 92)) (v := ?_) rfl rfl (by kernel_rfl) (by kernel_rfl) (by kernel_rfl) (fun _ _ _ h => h) (Or.inl ⟨by rfl, ?_⟩) (by assumption) ?_; rotate_left 1; focus ((intro w hSw; (try dsimp only at hSw); first | (go_simp; done) | (go_simp; with_reducible rfl)); done); (try simp only [Act.put, List.setIfInBounds_toArray, List.set_cons_zero, List.set_cons_succ])))
              (try simp only [Act.put, List.setIfInBounds_toArray, List.set_cons_zero, List.set_cons_succ])
              (first | (refine take_held (i := 6) (d := (some 93)) (v := ?_) rfl rfl (by kernel_rfl) (by kernel_rfl) (by kernel_rfl) (fun _ _ _ h => h) (Or.inl ⟨by rfl, ?_⟩) (by assumption) ?_; rotate_left 1; focus ((intro w hSw; (try dsimp only at hSw); first | (go_simp; done) | (go_simp; with_reducible rfl)); done); (try simp only [Act.put, List.setIfInBounds_toArray, List.set_cons_zero, List.set_cons_succ])))
              (try simp only [Act.put, List.setIfInBounds_toArray, List.set_cons_zero, List.set_cons_succ])
              (first | (refine take_held (i := 7) (d := (some 94)) (v := ?_) rfl rfl (by kernel_rfl) (by kernel_rfl) (by kernel_rfl) (fun _ _ _ h => h) (Or.inl ⟨by rfl, ?_⟩) (by assumption) ?_; rotate_left 1; focus ((intro w hSw; (try dsimp only at hSw); first | (go_simp; done) | (go_simp; with_reducible rfl)); done); (try simp only [Act.put, List.setIfInBounds_toArray, List.set_cons_zero, List.set_cons_succ])))
              (try simp only [Act.put, List.setIfInBounds_toArray, List.set_cons_zero, List.set_cons_succ])
              (first | (refine take_held (i := 8) (d := (some 95)) (v := ?_) rfl rfl (by kernel_rfl) (by kernel_rfl) (by kernel_rfl) (fun _ _ _ h => h) (Or.inl ⟨by rfl, ?_⟩) (by assumption) ?_; rotate_left 1; focus ((intro w hSw; (try dsimp only at hSw); first | (go_simp; done) | (go_simp; with_reducible rfl)); done); (try simp only [Act.put, List.setIfInBounds_toArray, List.set_cons_zero, List.set_cons_succ])))
              (try simp only [Act.put, List.setIfInBounds_toArray, List.set_cons_zero, List.set_cons_succ])
              (first | (refine take_held (i := 9) (d := (some 96)) (v := ?_) rfl rfl (by kernel_rfl) (by kernel_rfl) (by kernel_rfl) (fun _ _ _ h => h) (Or.inl ⟨by rfl, ?_⟩) (by assumption) ?_; rotate_left 1; focus ((intro w hSw; (try dsimp only at hSw); first | (go_simp; done) | (go_simp; with_reducible rfl)); done); (try simp only [Act.put, List.setIfInBounds_toArray, List.set_cons_zero, List.set_cons_succ])))
              (try simp only [Act.put, List.setIfInBounds_toArray, List.set_cons_zero, List.set_cons_succ])
              (first | (refine take_held (i := 10) (d := (some 97)) (v := ?_) rfl rfl (by kernel_rfl) (by kernel_rfl) (by kernel_rfl) (fun _ _ _ h => h) (Or.inl ⟨by rfl, ?_⟩) (by assumption) ?_; rotate_left 1; focus ((intro w hSw; (try dsimp only at hSw); first | (go_simp; done) | (go_simp; with_reducible rfl)); done); (try simp only [Act.put, List.setIfInBounds_toArray, List.set_cons_zero, List.set_cons_succ])))
              (try simp only [Act.put, List.setIfInBounds_toArray, List.set_cons_zero, List.set_cons_succ])
              (first
                | (refine wpAnyH_ready (rs := [11]) (by kernel_rfl) (by simp) ?_; refine AllReadyH.cons (o := _) rfl (fun K hK => ?_) AllReadyH.nil; go_simp; (go_at_call 43; refine (HSI.out _ OTI.out _ _ _ _ _ _ _ _ _ _ _ _ _ (Kd.C_below HLR.out (And.left (by assumption))) (HX.out.below (And.left (by assumption))) (HY.out.below (And.left (by assumption)))).mono ?_; rw [HQI.out]; rintro e_ wA ⟨rfl, hbA⟩); (try go_wp2_with fail); refine hK.out _ _ (by (try dsimp only); ((refine and_of (fun hB_ => ⟨cell_up hB_ v9, cell_up hB_ t4, cell_up hB_ x0, cell_up hB_ x1, cell_up hB_ x2, cell_up hB_ x3, cell_up hB_ x4, cell_up hB_ x5, cell_up hB_ x6, cell_up hB_ x7, cell_up hB_ x8, cell_up hB_ x9, cell_up hB_ y0, cell_up hB_ y1, cell_up hB_ y2, cell_up hB_ y3, cell_up hB_ y4⟩) ?_; first | (with_reducible exact (Below.refl _ _).drew) | (with_reducible exact Below.refl _ _) | (with_reducible exact below_call' (And.left (by assumption)) (by assumption)) | (with_reducible exact And.left (by assumption))))) ?_; clear hHeld hK K; intro hHeld; (try simp only [Act.put, List.setIfInBounds_toArray, List.set_cons_zero, List.set_cons_succ])))
              (first | (refine take_held (i := 12) (d := (some 99)) (v := ?_) rfl rfl (by kernel_rfl) (by kernel_rfl) (by kernel_rfl) (fun _ _ _ h => h) (Or.inl ⟨by rfl, ?_⟩) (by assumption) ?_; rotate_left 1; focus ((intro w hSw; (try dsimp only at hSw); first | (go_simp; done) | (go_simp; with_reducible rfl)); done); (try simp only [Act.put, List.setIfInBounds_toArray, List.set_cons_zero, List.set_cons_succ])))
              (try simp only [Act.put, List.setIfInBounds_toArray, List.set_cons_zero, List.set_cons_succ])
              (try simp only [Act.put, List.setIfInBounds_toArray, List.set_cons_zero, List.set_cons_succ])
              refine wpAnyH_done (by kernel_rfl) ?_ _
              have b3 := chain BR.out (below_call' hHeld.1 (Below.refl _ _))
              go_wp2
              go_roundg k1
              case measure => omega
              case rel => exact ⟨i + 1, (by first | rfl | (simp; done) | (push_cast; rfl)), by have := HK.out; omega, HA2, b3⟩
            | false =>
              have HQI := Aside0.mk hq
              have HF2 := Aside0.mk (HF.out hq)
              clear hq HA1 HF br
              go_wp2_with fail
              refine wp_region_held_drew (S := (fun w' => Below wr.heap.size wr w' ∧ w'.cell? ⟨w.heap.size, 9, none⟩ = some (.slice (some ad) v.f8.length c8) ∧ w'.cell? ⟨w.heap.size + 1, 4, none⟩ = some (.slice (some bd) t.f4.length c4) ∧ w'.cell? (ad.add (i * 10)) = some (.int .i64 y.f0) ∧ w'.cell? ⟨(ad.add (i * 10)).block, (ad.add (i * 10)).off + 1, none⟩ = some (.int .i64 y.f1) ∧ w'.cell? ⟨(ad.add (i * 10)).block, (ad.add (i * 10)).off + 2, none⟩ = some (.int .i64 y.f2) ∧ w'.cell? ⟨(ad.add (i * 10)).block, (ad.add (i * 10)).off + 3, none⟩ = some (.bool y.f3) ∧ w'.cell? ⟨(ad.add (i * 10)).block, (ad.add (i * 10)).off + 4, none⟩ = some (.string y.f4) ∧ w'.cell? ⟨(ad.add (i * 10)).block, (ad.add (i * 10)).off + 5, none⟩ = some (.string y.f5.f0) ∧ w'.cell? ⟨(ad.add (i * 10)).block, (ad.add (i * 10)).off + 6, none⟩ = some (.int .i64 y.f5.f1) ∧ w'.cell? ⟨(ad.add (i * 10)).block, (ad.add (i * 10)).off + 7, none⟩ = some (.slice X6 y.f6.length e6) ∧ w'.cell? ⟨(ad.add (i * 10)).block, (ad.add (i * 10)).off + 8, none⟩ = some (.slice X7 y.f7.length e7) ∧ w'.cell? ⟨(ad.add (i * 10)).block, (ad.add (i * 10)).off + 9, none⟩ = some (.slice X8 y.f8.length e8) ∧ w'.cell? (bd.add (i * 5)) = some (.int .i64 z.f0) ∧ w'.cell? ⟨(bd.add (i * 5)).block, (bd.add (i * 5)).off + 1, none⟩ = some (.int .i64 z.f1) ∧ w'.cell? ⟨(bd.add (i * 5)).block, (bd.add (i * 5)).off + 2, none⟩ = some (.string z.f2) ∧ w'.cell? ⟨(bd.add (i * 5)).block, (bd.add (i * 5)).off + 3, none⟩ = some (.slice Z3 z.f3.length g3) ∧ w'.cell? ⟨(bd.add (i * 5)).block, (bd.add (i * 5)).off + 4, none⟩ = some (.slice Z4 z.f4.length g4))) (by kernel_rfl) ?_ (fun hHeld => ?_)
              · (try dsimp only)
                ((refine and_of (fun hB_ => ⟨cell_up hB_ v9, cell_up hB_ t4, cell_up hB_ x0, cell_up hB_ x1, cell_up hB_ x2, cell_up hB_ x3, cell_up hB_ x4, cell_up hB_ x5, cell_up hB_ x6, cell_up hB_ x7, cell_up hB_ x8, cell_up hB_ x9, cell_up hB_ y0, cell_up hB_ y1, cell_up hB_ y2, cell_up hB_ y3, cell_up hB_ y4⟩) ?_; first | (with_reducible exact (Below.refl _ _).drew) | (with_reducible exact Below.refl _ _) | (with_reducible exact below_call' (And.left (by assumption)) (by assumption)) | (with_reducible exact And.left (by assumption))))
              (first | (refine take_held (i := 0) (d := (some 87)) (v := ?_) rfl rfl (by kernel_rfl) (by kernel_rfl) (by kernel_rfl) (fun _ _ _ h => h) (Or.inl ⟨by rfl, ?_⟩) (by assumption) ?_; rotate_left 1; focus ((intro w hSw; (try dsimp only at hSw); first | (go_simp; done) | (go_simp; with_reducible rfl)); done); (try simp only [Act.put, List.setIfInBounds_toArray, List.set_cons_zero, List.set_cons_succ])))
              (try simp only [Act.put, List.setIfInBounds_toArray, List.set_cons_zero, List.set_cons_succ])
              (first | (refine take_held (i := 1) (d := (some 88)) (v := ?_) rfl rfl (by kernel_rfl) (by kernel_rfl) (by kernel_rfl) (fun _ _ _ h => h) (Or.inl ⟨by rfl, ?_⟩) (by assumption) ?_; rotate_left 1; focus ((intro w hSw; (try dsimp only at hSw); first | (go_simp; done) | (go_simp; with_reducible rfl)); done); (try simp only [Act.put, List.setIfInBounds_toArray, List.set_cons_zero, List.set_cons_succ])))
              (try simp only [Act.put, List.setIfInBounds_toArray, List.set_cons_zero, List.set_cons_succ])
              (first | (refine take_held (i := 2) (d := (some 89)) (v := ?_) rfl rfl (by kernel_rfl) (by kernel_rfl) (by kernel_rfl) (fun _ _ _ h => h) (Or.inl ⟨by rfl, ?_⟩) (by assumption) ?_; rotate_left 1; focus ((intro w hSw; (try dsimp only at hSw); first | (go_simp; done) | (go_simp; with_reducible rfl)); done); (try simp only [Act.put, List.setIfInBounds_toArray, List.set_cons_zero, List.set_cons_succ])))
              (try simp only [Act.put, List.setIfInBounds_toArray, List.set_cons_zero, List.set_cons_succ])
              (first | (refine take_held (i := 3) (d := (some 90)) (v := ?_) rfl rfl (by kernel_rfl) (by kernel_rfl) (by kernel_rfl) (fun _ _ _ h => h) (Or.inl ⟨by rfl, ?_⟩) (by assumption) ?_; rotate_left 1; focus ((intro w hSw; (try dsimp only at hSw); first | (go_simp; done) | (go_simp; with_reducible rfl)); done); (try simp only [Act.put, List.setIfInBounds_toArray, List.set_cons_zero, List.set_cons_succ])))
              (try simp only [Act.put, List.setIfInBounds_toArray, List.set_cons_zero, List.set_cons_succ])
              (first | (refine take_held (i := 4) (d := (some 91)) (v := ?_) rfl rfl (by kernel_rfl) (by kernel_rfl) (by kernel_rfl) (fun _ _ _ h => h) (Or.inl ⟨by rfl, ?_⟩) (by assumption) ?_; rotate_left 1; focus ((intro w hSw; (try dsimp only at hSw); first | (go_simp; done) | (go_simp; with_reducible rfl)); done); (try simp only [Act.put, List.setIfInBounds_toArray, List.set_cons_zero, List.set_cons_succ])))
              (try simp only [Act.put, List.setIfInBounds_toArray, List.set_cons_zero, List.set_cons_succ])
              (first | (refine take_held (i := 5) (d := (some 92)) (v := ?_) rfl rfl (by kernel_rfl) (by kernel_rfl) (by kernel_rfl) (fun _ _ _ h => h) (Or.inl ⟨by rfl, ?_⟩) (by assumption) ?_; rotate_left 1; focus ((intro w hSw; (try dsimp only at hSw); first | (go_simp; done) | (go_simp; with_reducible rfl)); done); (try simp only [Act.put, List.setIfInBounds_toArray, List.set_cons_zero, List.set_cons_succ])))
              (try simp only [Act.put, List.setIfInBounds_toArray, List.set_cons_zero, List.set_cons_succ])
              (first | (refine take_held (i := 6) (d := (some 93)) (v := ?_) rfl rfl (by kernel_rfl) (by kernel_rfl) (by kernel_rfl) (fun _ _ _ h => h) (Or.inl ⟨by rfl, ?_⟩) (by assumption) ?_; rotate_left 1; focus ((intro w hSw; (try dsimp only at hSw); first | (go_simp; done) | (go_simp; with_reducible rfl)); done); (try simp only [Act.put, List.setIfInBounds_toArray, List.set_cons_zero, List.set_cons_succ])))
              (try simp only [Act.put, List.setIfInBounds_toArray, List.set_cons_zero, List.set_cons_succ])
              (first | (refine take_held (i := 7) (d := (some 94)) (v := ?_) rfl rfl (by kernel_rfl) (by kernel_rfl) (by kernel_rfl) (fun _ _ _ h => h) (Or.inl ⟨by rfl, ?_⟩) (by assumption) ?_; rotate_left 1; focus ((intro w hSw; (try dsimp only at hSw); first | (go_simp; done) | (go_simp; with_reducible rfl)); done); (try simp only [Act.put, List.setIfInBounds_toArray, List.set_cons_zero, List.set_cons_succ])))
              (try simp only [Act.put, List.setIfInBounds_toArray, List.set_cons_zero, List.set_cons_succ])
              (first | (refine take_held (i := 8) (d := (some 95)) (v := ?_) rfl rfl (by kernel_rfl) (by kernel_rfl) (by kernel_rfl) (fun _ _ _ h => h) (Or.inl ⟨by rfl, ?_⟩) (by assumption) ?_; rotate_left 1; focus ((intro w hSw; (try dsimp only at hSw); first | (go_simp; done) | (go_simp; with_reducible rfl)); done); (try simp only [Act.put, List.setIfInBounds_toArray, List.set_cons_zero, List.set_cons_succ])))
              (try simp only [Act.put, List.setIfInBounds_toArray, List.set_cons_zero, List.set_cons_succ])
              (first | (refine take_held (i := 9) (d := (some 96)) (v := ?_) rfl rfl (by kernel_rfl) (by kernel_rfl) (by kernel_rfl) (fun _ _ _ h => h) (Or.inl ⟨by rfl, ?_⟩) (by assumption) ?_; rotate_left 1; focus ((intro w hSw; (try dsimp only at hSw); first | (go_simp; done) | (go_simp; with_reducible rfl)); done); (try simp only [Act.put, List.setIfInBounds_toArray, List.set_cons_zero, List.set_cons_succ])))
              (try simp only [Act.put, List.setIfInBounds_toArray, List.set_cons_zero, List.set_cons_succ])
              (first | (refine take_held (i := 10) (d := (some 97)) (v := ?_) rfl rfl (by kernel_rfl) (by kernel_rfl) (by kernel_rfl) (fun _ _ _ h => h) (Or.inl ⟨by rfl, ?_⟩) (by assumption) ?_; rotate_left 1; focus ((intro w hSw; (try dsimp only at hSw); first | (go_simp; done) | (go_simp; with_reducible rfl)); done); (try simp only [Act.put, List.setIfInBounds_toArray, List.set_cons_zero, List.set_cons_succ])))
              (try simp only [Act.put, List.setIfInBounds_toArray, List.set_cons_zero, List.set_cons_succ])
              (first
                | (refine wpAnyH_ready (rs := [11]) (by kernel_rfl) (by simp) ?_; refine AllReadyH.cons (o := _) rfl (fun K hK => ?_) AllReadyH.nil; go_simp; (go_at_call 43; refine (HSI.out _ OTI.out _ _ _ _ _ _ _ _ _ _ _ _ _ (Kd.C_below HLR.out (And.left (by assumption))) (HX.out.below (And.left (by assumption))) (HY.out.below (And.left (by assumption)))).mono ?_; rw [HQI.out]; rintro e_ wA ⟨rfl, hbA⟩); (try go_wp2_with fail); refine hK.out _ _ (by (try dsimp only); ((refine and_of (fun hB_ => ⟨cell_up hB_ v9, cell_up hB_ t4, cell_up hB_ x0, cell_up hB_ x1, cell_up hB_ x2, cell_up hB_ x3, cell_up hB_ x4, cell_up hB_ x5, cell_up hB_ x6, cell_up hB_ x7, cell_up hB_ x8, cell_up hB_ x9, cell_up hB_ y0, cell_up hB_ y1, cell_up hB_ y2, cell_up hB_ y3, cell_up hB_ y4⟩) ?_; first | (with_reducible exact (Below.refl _ _).drew) | (with_reducible exact Below.refl _ _) | (with_reducible exact below_call' (And.left (by assumption)) (by assumption)) | (with_reducible exact And.left (by assumption))))) ?_; clear hHeld hK K; intro hHeld; (try simp only [Act.put, List.setIfInBounds_toArray, List.set_cons_zero, List.set_cons_succ])))
              (first | (refine take_held (i := 12) (d := (some 99)) (v := ?_) rfl rfl (by kernel_rfl) (by kernel_rfl) (by kernel_rfl) (fun _ _ _ h => h) (Or.inl ⟨by rfl, ?_⟩) (by assumption) ?_; rotate_left 1; focus ((intro w hSw; (try dsimp only at hSw); first | (go_simp; done) | (go_simp; with_reducible rfl)); done); (try simp only [Act.put, List.setIfInBounds_toArray, List.set_cons_zero, List.set_cons_succ])))
              (try simp only [Act.put, List.setIfInBounds_toArray, List.set_cons_zero, List.set_cons_succ])
              (try simp only [Act.put, List.setIfInBounds_toArray, List.set_cons_zero, List.set_cons_succ])
              refine wpAnyH_done (by kernel_rfl) ?_ _
              have b3 := chain b2 (below_call' hHeld.1 (Below.refl _ _))
              go_wp2
              go_ret
              exact ⟨by rw [HF2.out]; rfl, b3⟩
          · have cn : decide ((i : Int) < (v.f8.length : Int)) = false := decide_eq_false (by omega)
            have cn2 : decide (i < v.f8.length) = false := decide_eq_false hi
            have HO : Aside0 (o = true) := ⟨by rw [HN.out]; exact allTwo_all HEQ.out (fun j hj hj' => HA.out j hj hj' (by omega))⟩
            replace v9 := cell_up br v9
            replace t4 := cell_up br t4
            have b2 := chain B1.out br
            clear v0 v1 v2 v3 v4 v5 v6 v7 v8 t0 t1 t2 t3
            go_wp2
            go_ret
            exact ⟨by rw [HO.out]; rfl, b2⟩
      · have HN : Aside0 (o = false) := ⟨by rw [HQ1.out, if_neg (fun h => hn h.2)]⟩
        have n1 : decide ((v.f8.length : Int) = (t.f4.length : Int)) = false := decide_eq_false (by omega)
        have n2 : ((v.f8.length : Int) == (t.f4.length : Int)) = false := by simp; omega
        have n3 : ((v.f8.length : Int) != (t.f4.length : Int)) = true := by simp; omega
        have n4 : decide (v.f8.length = t.f4.length) = false := decide_eq_false hn
        clear he HQ1 hn
        go_wp2
        go_ret
        exact ⟨by rw [HN.out]; rfl, B1.out⟩
  · have HN : Aside0 (o = false) := ⟨by rw [HQ.out, if_neg (fun h => h4 h.1)]⟩
    have z1 : decide (v.f0 = 4) = false := decide_eq_false (by first | exact h4 | omega)
    have z2 : (v.f0 == 4) = false := by first | simpa using h4 | (simp; omega)
    have z3 : (v.f0 != 4) = true := by first | simpa using h4 | (simp; omega)
    clear hk h4 b0
    go_enter Try.func43, Try.ntmps43
    go_wp2
    go_ret
    exact ⟨by rw [HN.out]; rfl, B0.out⟩
end Go.Proofs.Ytnfnhjhnfdkinaa.PConvBack

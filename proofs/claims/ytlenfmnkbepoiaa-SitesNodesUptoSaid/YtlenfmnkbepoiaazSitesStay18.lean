/-
  SitesStay: texts of this claim, put together by a program of this session. No conditions beyond what each lemma says.
-/
import Derived.Test.YtlenfmnkbepoiaazSitesStay17
namespace Go.Proofs.Ytlenfmnkbepoiaa.PSitesTell
open Go.RowKit Go.Proofs.YtlenfmnkbepoiaaW.Mine Go.Proofs.YtlenfmnkbepoiaaW.PrintWords Go.Proofs.YtlenfmnkbepoiaaW.PrintLast Go.Proofs.YtlenfmnkbepoiaaW.PrintMore
attribute [local go_sem] max2_int min2_int max_two min_two max_three min_three max_four min_four
set_option linter.unusedVariables false
set_option linter.unusedSimpArgs false
set_option maxHeartbeats 4000000 in
set_option maxRecDepth 100000 in
theorem exp_c (x : Ex) (ho : Oke x) (hs : ∀ y, y ∈ x.f6 → SaysE y) : SaysE x := by
  intro y A4 c4 A5 c5 A6 c6 B4 d4 B5 d5 B6 d6 w hA hB
  obtain ⟨v0, v1, v2, v3, v4, v5, v6⟩ := y
  obtain ⟨kP, kQ, b0, z0⟩ := twoA w (ecells x A4 c4 A5 c5 A6 c6) (ecells ⟨v0, v1, v2, v3, v4, v5, v6⟩ B4 d4 B5 d5 B6 d6) 31 31
  obtain ⟨⟨p0, p1, p2, p3, p4, p5, p6⟩, -, lp⟩ := seven kP
  obtain ⟨⟨q0, q1, q2, q3, q4, q5, q6⟩, -, lq⟩ := seven kQ
  replace hA := hA.below b0
  replace hB := hB.below b0
  have HO := Aside0.mk ho
  have HS := Aside0.mk hs
  have HA := Aside0.mk hA
  have HB := Aside0.mk hB
  have b1 := Aside0.mk b0
  clear kP kQ ho hs b0 z0 hA hB
  by_cases df0 : x.f0 = v0
  case neg =>
    have ef0 : (x.f0 != v0) = true := ne_yes df0
    have Df0 := Aside0.mk df0
    clear df0
    go_enter Try.func52, Try.ntmps52
    go_wp2
    go_ret
    exact SmOut.no (fun h => Df0.out (by rw [h])) b1.out
  have ef0 : (x.f0 != v0) = false := ne_no df0
  have Df0 := Aside0.mk df0
  clear df0
  by_cases df1 : x.f1 = v1
  case neg =>
    have ef1 : (x.f1 != v1) = true := ne_yes df1
    have Df1 := Aside0.mk df1
    clear df1
    go_enter Try.func52, Try.ntmps52
    go_wp2
    go_ret
    exact SmOut.no (fun h => Df1.out (by rw [h])) b1.out
  have ef1 : (x.f1 != v1) = false := ne_no df1
  have Df1 := Aside0.mk df1
  clear df1
  by_cases df2 : x.f2 = v2
  case neg =>
    have ef2 := text_ne df2
    have Df2 := Aside0.mk df2
    clear df2
    go_enter Try.func52, Try.ntmps52
    go_wp2
    go_ret
    exact SmOut.no (fun h => Df2.out (by rw [h])) b1.out
  have ef2 := text_eq df2
  have Df2 := Aside0.mk df2
  clear df2
  by_cases df3 : x.f3 = v3
  case neg =>
    obtain rfl : v3 = !x.f3 := by cases hx : x.f3 <;> cases hy : v3 <;> simp_all
    clear df3
    go_enter Try.func52, Try.ntmps52
    go_wp2
    go_ret
    exact SmOut.no (fun h => by have := congrArg (fun q => q.f3) h; simp at this) b1.out
  subst df3
  go_enter Try.func52, Try.ntmps52
  go_wp2_with fail
  refine (alls_c x.f4 v4 (fun z hz => saysT z (HO.out.types z hz)) (by have := HO.out.l80; omega) HA.out.2.1 HB.out.2.1).mono ?_
  rintro e_ w1 ⟨b, rfl, hbi, hb⟩
  replace p0 := cell_up hb p0
  replace p1 := cell_up hb p1
  replace p2 := cell_up hb p2
  replace p3 := cell_up hb p3
  replace p4 := cell_up hb p4
  replace p5 := cell_up hb p5
  replace p6 := cell_up hb p6
  replace q0 := cell_up hb q0
  replace q1 := cell_up hb q1
  replace q2 := cell_up hb q2
  replace q3 := cell_up hb q3
  replace q4 := cell_up hb q4
  replace q5 := cell_up hb q5
  replace q6 := cell_up hb q6
  have HA1 := Aside0.mk (HA.out.below hb)
  have HB1 := Aside0.mk (HB.out.below hb)
  have b2 := Aside0.mk (chain b1.out hb)
  replace lp := Nat.lt_of_lt_of_le lp hb.size
  replace lq := Nat.lt_of_lt_of_le lq hb.size
  cases b
  case false =>
    have Df4 : Aside0 (¬ (x.f4 = v4)) := ⟨fun h => by simp [h] at hbi⟩
    clear hbi hb
    go_wp2
    go_ret
    exact SmOut.no (fun h => Df4.out (by rw [h])) b2.out
  have Df4 := Aside0.mk (hbi.1 rfl)
  clear hbi hb
  go_wp2_with fail
  refine (texts_c x.f5 v5 HO.out.l5 HA1.out.2.2.2.1 HB1.out.2.2.2.1).mono ?_
  rintro e_ w2 ⟨b, rfl, hbi, hb⟩
  replace p0 := cell_up hb p0
  replace p1 := cell_up hb p1
  replace p2 := cell_up hb p2
  replace p3 := cell_up hb p3
  replace p4 := cell_up hb p4
  replace p5 := cell_up hb p5
  replace p6 := cell_up hb p6
  replace q0 := cell_up hb q0
  replace q1 := cell_up hb q1
  replace q2 := cell_up hb q2
  replace q3 := cell_up hb q3
  replace q4 := cell_up hb q4
  replace q5 := cell_up hb q5
  replace q6 := cell_up hb q6
  have HA2 := Aside0.mk (HA1.out.below hb)
  have HB2 := Aside0.mk (HB1.out.below hb)
  have b3 := Aside0.mk (chain b2.out hb)
  replace lp := Nat.lt_of_lt_of_le lp hb.size
  replace lq := Nat.lt_of_lt_of_le lq hb.size
  cases b
  case false =>
    have Df5 : Aside0 (¬ (x.f5 = v5)) := ⟨fun h => by simp [h] at hbi⟩
    clear hbi hb
    go_wp2
    go_ret
    exact SmOut.no (fun h => Df5.out (by rw [h])) b3.out
  have Df5 := Aside0.mk (hbi.1 rfl)
  clear hbi hb
  by_cases hlm : x.f6.length = v6.length
  case neg =>
    have c0 : ((x.f6.length : Int) != (v6.length : Int)) = true := ne_yes (by omega)
    have HLM := Aside0.mk hlm
    clear hlm
    go_wp2
    go_ret
    exact SmOut.no (fun h => HLM.out (by rw [h])) b3.out
  have c0 : ((x.f6.length : Int) != (v6.length : Int)) = false := ne_no (by omega)
  have HLM := Aside0.mk hlm
  clear hlm
  go_wp2_with fail
  go_loopg [5] x.f6.length (fun kq v5 w' => ∃ (i : Nat), v5 = .int .i64 i ∧ kq + i = x.f6.length ∧ x.f6.take i = v6.take i ∧ Below w2.heap.size w2 w')
  case atStart => exact ⟨0, rfl, rfl, rfl, Below.refl _ _⟩
  case round =>
    obtain ⟨i, rfl, hk, ht, br⟩ := hrel
    have z0 := cell_up br p6
    have z1 := cell_up br q6
    by_cases hi : i < x.f6.length
    · obtain ⟨k1, rfl⟩ : ∃ k1, gk = k1 + 1 := ⟨gk - 1, by omega⟩
      have hj : i < v6.length := by have := HLM.out; omega
      have ci : decide ((i : Int) < (x.f6.length : Int)) = true := decide_eq_true (by omega)
      have cj : decide ((i : Int) < (v6.length : Int)) = true := decide_eq_true (by omega)
      have i0 : (0 : Int) ≤ (i : Int) := by omega
      have i1 : (i : Int) < (x.f6.length : Int) := by omega
      have j1 : (i : Int) < (v6.length : Int) := by omega
      obtain ⟨ad, X0, e1, X2, e3, X4, e5, eA, fx, x0, x1, x2, x3, x4, x5, x6⟩ := eeltc HA2.out.2.2.2.2.2 i hi
      obtain ⟨bd, Y0, j1, Y2, j3, Y4, j5, eB, fy, y0, y1, y2, y3, y4, y5, y6⟩ := eeltc HB2.out.2.2.2.2.2 i hj
      subst eA eB
      replace x0 := cell_up br x0
      replace x1 := cell_up br x1
      replace x2 := cell_up br x2
      replace x3 := cell_up br x3
      replace x4 := cell_up br x4
      replace x5 := cell_up br x5
      replace x6 := cell_up br x6
      replace y0 := cell_up br y0
      replace y1 := cell_up br y1
      replace y2 := cell_up br y2
      replace y3 := cell_up br y3
      replace y4 := cell_up br y4
      replace y5 := cell_up br y5
      replace y6 := cell_up br y6
      replace fx := fx.below br
      replace fy := fy.below br
      have HK := Aside0.mk hk
      have HT := Aside0.mk ht
      clear hk ht p0 p1 p2 p3 p4 p5 p6 q0 q1 q2 q3 q4 q5 q6
      go_wp2_with fail
      refine wp_region_held_drew (S := (fun w' => Below wr.heap.size wr w' ∧ w'.cell? ⟨w.heap.size, 6, none⟩ = some (.slice (some ad) x.f6.length c6) ∧ w'.cell? ⟨w.heap.size + 1, 6, none⟩ = some (.slice (some bd) v6.length d6) ∧ w'.cell? (ad.add (i * 7)) = some (.int .i64 x.f6[i].f0) ∧ w'.cell? ⟨(ad.add (i * 7)).block, (ad.add (i * 7)).off + 1, none⟩ = some (.int .i64 x.f6[i].f1) ∧ w'.cell? ⟨(ad.add (i * 7)).block, (ad.add (i * 7)).off + 2, none⟩ = some (.string x.f6[i].f2) ∧ w'.cell? ⟨(ad.add (i * 7)).block, (ad.add (i * 7)).off + 3, none⟩ = some (.bool x.f6[i].f3) ∧ w'.cell? ⟨(ad.add (i * 7)).block, (ad.add (i * 7)).off + 4, none⟩ = some (.slice X0 x.f6[i].f4.length e1) ∧ w'.cell? ⟨(ad.add (i * 7)).block, (ad.add (i * 7)).off + 5, none⟩ = some (.slice X2 x.f6[i].f5.length e3) ∧ w'.cell? ⟨(ad.add (i * 7)).block, (ad.add (i * 7)).off + 6, none⟩ = some (.slice X4 x.f6[i].f6.length e5) ∧ w'.cell? (bd.add (i * 7)) = some (.int .i64 v6[i].f0) ∧ w'.cell? ⟨(bd.add (i * 7)).block, (bd.add (i * 7)).off + 1, none⟩ = some (.int .i64 v6[i].f1) ∧ w'.cell? ⟨(bd.add (i * 7)).block, (bd.add (i * 7)).off + 2, none⟩ = some (.string v6[i].f2) ∧ w'.cell? ⟨(bd.add (i * 7)).block, (bd.add (i * 7)).off + 3, none⟩ = some (.bool v6[i].f3) ∧ w'.cell? ⟨(bd.add (i * 7)).block, (bd.add (i * 7)).off + 4, none⟩ = some (.slice Y0 v6[i].f4.length j1) ∧ w'.cell? ⟨(bd.add (i * 7)).block, (bd.add (i * 7)).off + 5, none⟩ = some (.slice Y2 v6[i].f5.length j3) ∧ w'.cell? ⟨(bd.add (i * 7)).block, (bd.add (i * 7)).off + 6, none⟩ = some (.slice Y4 v6[i].f6.length j5))) (by kernel_rfl) ?_ (fun hHeld => ?_)
      · (try dsimp only)
        (refine and_of (fun hB_ => ⟨cell_up hB_ z0, cell_up hB_ z1, cell_up hB_ x0, cell_up hB_ x1, cell_up hB_ x2, cell_up hB_ x3, cell_up hB_ x4, cell_up hB_ x5, cell_up hB_ x6, cell_up hB_ y0, cell_up hB_ y1, cell_up hB_ y2, cell_up hB_ y3, cell_up hB_ y4, cell_up hB_ y5, cell_up hB_ y6⟩) ?_; first | (with_reducible exact (Below.refl _ _).drew) | (with_reducible exact below_call' (And.left (by assumption)) (by assumption)) | (with_reducible exact And.left (by assumption)))
      (first | (refine take_held (i := 0) (d := (some 71)) (v := ?_) rfl rfl (by kernel_rfl) (by kernel_rfl) (by kernel_rfl) (fun _ _ _ h => h) (Or.inl ⟨by rfl, ?_⟩) (by assumption) ?_; rotate_left 1; focus ((intro w hSw; (try dsimp only at hSw); first | (go_simp; done) | (go_simp; with_reducible rfl)); done); (try simp only [Act.put, List.setIfInBounds_toArray, List.set_cons_zero, List.set_cons_succ])))
      (try simp only [Act.put, List.setIfInBounds_toArray, List.set_cons_zero, List.set_cons_succ])
      (first | (refine take_held (i := 1) (d := (some 72)) (v := ?_) rfl rfl (by kernel_rfl) (by kernel_rfl) (by kernel_rfl) (fun _ _ _ h => h) (Or.inl ⟨by rfl, ?_⟩) (by assumption) ?_; rotate_left 1; focus ((intro w hSw; (try dsimp only at hSw); first | (go_simp; done) | (go_simp; with_reducible rfl)); done); (try simp only [Act.put, List.setIfInBounds_toArray, List.set_cons_zero, List.set_cons_succ])))
      (try simp only [Act.put, List.setIfInBounds_toArray, List.set_cons_zero, List.set_cons_succ])
      (first | (refine take_held (i := 2) (d := (some 73)) (v := ?_) rfl rfl (by kernel_rfl) (by kernel_rfl) (by kernel_rfl) (fun _ _ _ h => h) (Or.inl ⟨by rfl, ?_⟩) (by assumption) ?_; rotate_left 1; focus ((intro w hSw; (try dsimp only at hSw); first | (go_simp; done) | (go_simp; with_reducible rfl)); done); (try simp only [Act.put, List.setIfInBounds_toArray, List.set_cons_zero, List.set_cons_succ])))
      (try simp only [Act.put, List.setIfInBounds_toArray, List.set_cons_zero, List.set_cons_succ])
      (first | (refine take_held (i := 3) (d := (some 74)) (v := ?_) rfl rfl (by kernel_rfl) (by kernel_rfl) (by kernel_rfl) (fun _ _ _ h => h) (Or.inl ⟨by rfl, ?_⟩) (by assumption) ?_; rotate_left 1; focus ((intro w hSw; (try dsimp only at hSw); first | (go_simp; done) | (go_simp; with_reducible rfl)); done); (try simp only [Act.put, List.setIfInBounds_toArray, List.set_cons_zero, List.set_cons_succ])))
      (try simp only [Act.put, List.setIfInBounds_toArray, List.set_cons_zero, List.set_cons_succ])
      (first | (refine take_held (i := 4) (d := (some 75)) (v := ?_) rfl rfl (by kernel_rfl) (by kernel_rfl) (by kernel_rfl) (fun _ _ _ h => h) (Or.inl ⟨by rfl, ?_⟩) (by assumption) ?_; rotate_left 1; focus ((intro w hSw; (try dsimp only at hSw); first | (go_simp; done) | (go_simp; with_reducible rfl)); done); (try simp only [Act.put, List.setIfInBounds_toArray, List.set_cons_zero, List.set_cons_succ])))
      (try simp only [Act.put, List.setIfInBounds_toArray, List.set_cons_zero, List.set_cons_succ])
      (first | (refine take_held (i := 5) (d := (some 76)) (v := ?_) rfl rfl (by kernel_rfl) (by kernel_rfl) (by kernel_rfl) (fun _ _ _ h => h) (Or.inl ⟨by rfl, ?_⟩) (by assumption) ?_; rotate_left 1; focus ((intro w hSw; (try dsimp only at hSw); first | (go_simp; done) | (go_simp; with_reducible rfl)); done); (try simp only [Act.put, List.setIfInBounds_toArray, List.set_cons_zero, List.set_cons_succ])))
      (try simp only [Act.put, List.setIfInBounds_toArray, List.set_cons_zero, List.set_cons_succ])
      (first | (refine take_held (i := 6) (d := (some 77)) (v := ?_) rfl rfl (by kernel_rfl) (by kernel_rfl) (by kernel_rfl) (fun _ _ _ h => h) (Or.inl ⟨by rfl, ?_⟩) (by assumption) ?_; rotate_left 1; focus ((intro w hSw; (try dsimp only at hSw); first | (go_simp; done) | (go_simp; with_reducible rfl)); done); (try simp only [Act.put, List.setIfInBounds_toArray, List.set_cons_zero, List.set_cons_succ])))
      (try simp only [Act.put, List.setIfInBounds_toArray, List.set_cons_zero, List.set_cons_succ])
      (first | (refine take_held (i := 7) (d := (some 78)) (v := ?_) rfl rfl (by kernel_rfl) (by kernel_rfl) (by kernel_rfl) (fun _ _ _ h => h) (Or.inl ⟨by rfl, ?_⟩) (by assumption) ?_; rotate_left 1; focus ((intro w hSw; (try dsimp only at hSw); first | (go_simp; done) | (go_simp; with_reducible rfl)); done); (try simp only [Act.put, List.setIfInBounds_toArray, List.set_cons_zero, List.set_cons_succ])))
      (try simp only [Act.put, List.setIfInBounds_toArray, List.set_cons_zero, List.set_cons_succ])
      (first | (refine take_held (i := 8) (d := (some 79)) (v := ?_) rfl rfl (by kernel_rfl) (by kernel_rfl) (by kernel_rfl) (fun _ _ _ h => h) (Or.inl ⟨by rfl, ?_⟩) (by assumption) ?_; rotate_left 1; focus ((intro w hSw; (try dsimp only at hSw); first | (go_simp; done) | (go_simp; with_reducible rfl)); done); (try simp only [Act.put, List.setIfInBounds_toArray, List.set_cons_zero, List.set_cons_succ])))
      (try simp only [Act.put, List.setIfInBounds_toArray, List.set_cons_zero, List.set_cons_succ])
      (first | (refine take_held (i := 9) (d := (some 80)) (v := ?_) rfl rfl (by kernel_rfl) (by kernel_rfl) (by kernel_rfl) (fun _ _ _ h => h) (Or.inl ⟨by rfl, ?_⟩) (by assumption) ?_; rotate_left 1; focus ((intro w hSw; (try dsimp only at hSw); first | (go_simp; done) | (go_simp; with_reducible rfl)); done); (try simp only [Act.put, List.setIfInBounds_toArray, List.set_cons_zero, List.set_cons_succ])))
      (try simp only [Act.put, List.setIfInBounds_toArray, List.set_cons_zero, List.set_cons_succ])
      (first
        | (refine wpAnyH_ready (rs := [10]) (by kernel_rfl) (by simp) ?_; refine AllReadyH.cons (o := _) rfl (fun K hK => ?_) AllReadyH.nil; go_simp; (go_at_call 52; refine (HS.out _ (List.getElem_mem hi) _ _ _ _ _ _ _ _ _ _ _ _ _ wr.drew (fx.below (Below.refl _ _).drew) (fy.below (Below.refl _ _).drew)).mono ?_; rintro e_ wA ⟨b, rfl, hbi, hbA⟩; have hbW := hbA); (try go_wp2_with fail); refine hK.out _ _ (by (try dsimp only); (refine and_of (fun hB_ => ⟨cell_up hB_ z0, cell_up hB_ z1, cell_up hB_ x0, cell_up hB_ x1, cell_up hB_ x2, cell_up hB_ x3, cell_up hB_ x4, cell_up hB_ x5, cell_up hB_ x6, cell_up hB_ y0, cell_up hB_ y1, cell_up hB_ y2, cell_up hB_ y3, cell_up hB_ y4, cell_up hB_ y5, cell_up hB_ y6⟩) ?_; first | (with_reducible exact (Below.refl _ _).drew) | (with_reducible exact below_call' (And.left (by assumption)) (by assumption)) | (with_reducible exact And.left (by assumption)))) ?_; clear hHeld hK K; intro hHeld; (try simp only [Act.put, List.setIfInBounds_toArray, List.set_cons_zero, List.set_cons_succ])))
      (first | (refine take_held (i := 11) (d := (some 82)) (v := ?_) rfl rfl (by kernel_rfl) (by kernel_rfl) (by kernel_rfl) (fun _ _ _ h => h) (Or.inl ⟨by rfl, ?_⟩) (by assumption) ?_; rotate_left 1; focus ((intro w hSw; (try dsimp only at hSw); first | (go_simp; done) | (go_simp; with_reducible rfl)); done); (try simp only [Act.put, List.setIfInBounds_toArray, List.set_cons_zero, List.set_cons_succ])))
      (try simp only [Act.put, List.setIfInBounds_toArray, List.set_cons_zero, List.set_cons_succ])
      (try simp only [Act.put, List.setIfInBounds_toArray, List.set_cons_zero, List.set_cons_succ])
      refine wpAnyH_done (by kernel_rfl) ?_ _
      have hbR := And.left hHeld
      clear hHeld
      have br2 := chain br hbR
      clear z0 z1 x0 x1 x2 x3 x4 x5 x6 y0 y1 y2 y3 y4 y5 y6 fx fy br hbR hbW
      cases b with
      | false =>
        have HE : Aside0 (¬ (x.f6[i] = v6[i])) := ⟨fun h => by simp [h] at hbi⟩
        clear hbi
        go_wp2
        go_ret
        exact SmOut.no (fun h => HE.out (by have e := congrArg (fun q => q.f6) h; dsimp only at e; simp only [e])) (chain b3.out br2)
      | true =>
        have HE := Aside0.mk (hbi.1 rfl)
        clear hbi
        go_wp2
        go_roundg k1
        case measure => omega
        case rel => exact ⟨i + 1, (by rw [wrap_up (by have := HO.out.l112; omega)]), by have := HK.out; omega, take_two hi hj HT.out HE.out, br2⟩
    · have cn : decide ((i : Int) < (x.f6.length : Int)) = false := decide_eq_false (by omega)
      have HT := Aside0.mk ht
      have HI := Aside0.mk hi
      have br2 := br
      clear ht br
      go_wp2
      go_ret
      exact SmOut.yes (same_of7 Df0.out Df1.out Df2.out rfl Df4.out Df5.out (take_all HLM.out HI.out HT.out)) (chain b3.out br2)
theorem says_exp : ∀ (n : Nat) (x : Ex), SizeOf.sizeOf x < n → Oke x → SaysE x
  | 0, x, h, _ => absurd h (by omega)
  | n + 1, x, h, ho => exp_c x ho fun y hy => says_exp n y (by have := size_kids x y hy; omega) (ho.kids y hy)
theorem saysE (x : Ex) (h : Oke x) : SaysE x := says_exp _ x (Nat.lt_succ_self _) h
end Go.Proofs.Ytlenfmnkbepoiaa.PSitesTell

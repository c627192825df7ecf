/-
  ConvBack: texts of this claim, put together by a program of this session. No conditions beyond what each lemma says.
-/
import Derived.Test.YtnfnhjhnfdkinaazConvBack23
import Derived.Test.YtnfnhjhnfdkinaazConvBack27
namespace Go.Proofs.Ytnfnhjhnfdkinaa.PConvBack
open Go.RowKit Go.Proofs.YtnfnhjhnfdkinaaW.Mine Go.Proofs.YtnfnhjhnfdkinaaW.PrintWords Go.Proofs.YtnfnhjhnfdkinaaW.PrintLast Go.Proofs.YtnfnhjhnfdkinaaW.PrintMore
attribute [local go_sem] max2_int min2_int max_two min_two max_three min_three max_four min_four
set_option linter.unusedVariables false
set_option linter.unusedSimpArgs false
set_option maxHeartbeats 8000000 in
set_option maxRecDepth 100000 in
theorem few_n {l : List Se} (ol : Oks l) {A : Option Addr} {c : Nat} {w : World} (hL : RS w A c l) : Calls Try.prog 37 #[.slice A l.length c] w (NOut w) := by
  have hl := ol.len
  have OL := Aside0.mk ol
  clear ol
  go_enter Try.func37, Try.ntmps37
  go_wp2_with fail
  go_loopg [3, 4] l.length (fun kq vn vi w' => ∃ (i : Nat) (n : Int), vn = .int .i64 n ∧ vi = .int .i64 i ∧ kq + i = l.length ∧ Below w.heap.size w w')
  case atStart => exact ⟨0, _, rfl, rfl, rfl, Below.refl _ _⟩
  case round =>
    obtain ⟨i, n, rfl, rfl, hk, br⟩ := hrel
    replace hL := hL.below br
    by_cases hi : i < l.length ∧ (i : Int) < 20
    · obtain ⟨hi, hn⟩ := hi
      obtain ⟨k1, rfl⟩ : ∃ k1, gk = k1 + 1 := ⟨gk - 1, by omega⟩
      have ci : decide ((i : Int) < (l.length : Int)) = true := decide_eq_true (by omega)
      have ci2 : decide (i < l.length) = true := decide_eq_true hi
      have cn : decide ((i : Int) < 20) = true := decide_eq_true hn
      have cn2 : decide (i < 20) = true := decide_eq_true (by omega)
      have i0 : (0 : Int) ≤ (i : Int) := by omega
      have i1 : (i : Int) < (l.length : Int) := by omega
      have hm := List.getElem_mem hi
      obtain ⟨ad, X3, e3, X4, e4, X8, e8, X9, e9, hA, hr, hu, x0, x1, x2, x3, x4, x5, x6, x7, x8, x9, x10, x11⟩ := selem2 hL.1 i hi
      subst hA
      have HC1 := Aside0.mk (mucht _ _ (Nat.lt_succ_self _) (OL.out.rep _ hm))
      have HC2 := Aside0.mk (mucht _ _ (Nat.lt_succ_self _) (OL.out.up _ hm))
      have HK := Aside0.mk hk
      clear hk hm hn x11
      generalize l[i] = z at *
      go_wp2_with fail
      refine wp_region_held_drew (S := (fun w' => Below wr.heap.size wr w' ∧ w'.cell? (ad.add (i * 12)) = some (.int .i64 z.f0.f0) ∧ w'.cell? ⟨(ad.add (i * 12)).block, (ad.add (i * 12)).off + 1, none⟩ = some (.int .i64 z.f0.f1) ∧ w'.cell? ⟨(ad.add (i * 12)).block, (ad.add (i * 12)).off + 2, none⟩ = some (.string z.f0.f2) ∧ w'.cell? ⟨(ad.add (i * 12)).block, (ad.add (i * 12)).off + 3, none⟩ = some (.slice X3 z.f0.f3.length e3) ∧ w'.cell? ⟨(ad.add (i * 12)).block, (ad.add (i * 12)).off + 4, none⟩ = some (.slice X4 z.f0.f4.length e4) ∧ w'.cell? ⟨(ad.add (i * 12)).block, (ad.add (i * 12)).off + 5, none⟩ = some (.int .i64 z.f1.f0) ∧ w'.cell? ⟨(ad.add (i * 12)).block, (ad.add (i * 12)).off + 6, none⟩ = some (.int .i64 z.f1.f1) ∧ w'.cell? ⟨(ad.add (i * 12)).block, (ad.add (i * 12)).off + 7, none⟩ = some (.string z.f1.f2) ∧ w'.cell? ⟨(ad.add (i * 12)).block, (ad.add (i * 12)).off + 8, none⟩ = some (.slice X8 z.f1.f3.length e8) ∧ w'.cell? ⟨(ad.add (i * 12)).block, (ad.add (i * 12)).off + 9, none⟩ = some (.slice X9 z.f1.f4.length e9) ∧ w'.cell? ⟨(ad.add (i * 12)).block, (ad.add (i * 12)).off + 10, none⟩ = some (.string z.f2.f0))) (by kernel_rfl) ?_ (fun hHeld => ?_)
      · (try dsimp only)
        ((refine and_of (fun hB_ => ⟨cell_up hB_ x0, cell_up hB_ x1, cell_up hB_ x2, cell_up hB_ x3, cell_up hB_ x4, cell_up hB_ x5, cell_up hB_ x6, cell_up hB_ x7, cell_up hB_ x8, cell_up hB_ x9, cell_up hB_ x10⟩) ?_; first | (with_reducible exact (Below.refl _ _).drew) | (with_reducible exact below_call' (And.left (by assumption)) (by assumption)) | (with_reducible exact And.left (by assumption))))
      (first | (refine take_held (i := 0) (d := (some 15)) (v := ?_) rfl rfl (by kernel_rfl) (by kernel_rfl) (by kernel_rfl) (fun _ _ _ h => h) (Or.inl ⟨by rfl, ?_⟩) (by assumption) ?_; rotate_left 1; focus ((intro w hSw; (try dsimp only at hSw); first | (go_simp; done) | (go_simp; with_reducible rfl)); done); (try simp only [Act.put, List.setIfInBounds_toArray, List.set_cons_zero, List.set_cons_succ])))
      (try simp only [Act.put, List.setIfInBounds_toArray, List.set_cons_zero, List.set_cons_succ])
      (first | (refine take_held (i := 1) (d := (some 16)) (v := ?_) rfl rfl (by kernel_rfl) (by kernel_rfl) (by kernel_rfl) (fun _ _ _ h => h) (Or.inl ⟨by rfl, ?_⟩) (by assumption) ?_; rotate_left 1; focus ((intro w hSw; (try dsimp only at hSw); first | (go_simp; done) | (go_simp; with_reducible rfl)); done); (try simp only [Act.put, List.setIfInBounds_toArray, List.set_cons_zero, List.set_cons_succ])))
      (try simp only [Act.put, List.setIfInBounds_toArray, List.set_cons_zero, List.set_cons_succ])
      (first | (refine take_held (i := 2) (d := (some 17)) (v := ?_) rfl rfl (by kernel_rfl) (by kernel_rfl) (by kernel_rfl) (fun _ _ _ h => h) (Or.inl ⟨by rfl, ?_⟩) (by assumption) ?_; rotate_left 1; focus ((intro w hSw; (try dsimp only at hSw); first | (go_simp; done) | (go_simp; with_reducible rfl)); done); (try simp only [Act.put, List.setIfInBounds_toArray, List.set_cons_zero, List.set_cons_succ])))
      (try simp only [Act.put, List.setIfInBounds_toArray, List.set_cons_zero, List.set_cons_succ])
      (first | (refine take_held (i := 3) (d := (some 18)) (v := ?_) rfl rfl (by kernel_rfl) (by kernel_rfl) (by kernel_rfl) (fun _ _ _ h => h) (Or.inl ⟨by rfl, ?_⟩) (by assumption) ?_; rotate_left 1; focus ((intro w hSw; (try dsimp only at hSw); first | (go_simp; done) | (go_simp; with_reducible rfl)); done); (try simp only [Act.put, List.setIfInBounds_toArray, List.set_cons_zero, List.set_cons_succ])))
      (try simp only [Act.put, List.setIfInBounds_toArray, List.set_cons_zero, List.set_cons_succ])
      (first | (refine take_held (i := 4) (d := (some 19)) (v := ?_) rfl rfl (by kernel_rfl) (by kernel_rfl) (by kernel_rfl) (fun _ _ _ h => h) (Or.inl ⟨by rfl, ?_⟩) (by assumption) ?_; rotate_left 1; focus ((intro w hSw; (try dsimp only at hSw); first | (go_simp; done) | (go_simp; with_reducible rfl)); done); (try simp only [Act.put, List.setIfInBounds_toArray, List.set_cons_zero, List.set_cons_succ])))
      (try simp only [Act.put, List.setIfInBounds_toArray, List.set_cons_zero, List.set_cons_succ])
      (first | (refine take_held (i := 5) (d := (some 20)) (v := ?_) rfl rfl (by kernel_rfl) (by kernel_rfl) (by kernel_rfl) (fun _ _ _ h => h) (Or.inl ⟨by rfl, ?_⟩) (by assumption) ?_; rotate_left 1; focus ((intro w hSw; (try dsimp only at hSw); first | (go_simp; done) | (go_simp; with_reducible rfl)); done); (try simp only [Act.put, List.setIfInBounds_toArray, List.set_cons_zero, List.set_cons_succ])))
      (try simp only [Act.put, List.setIfInBounds_toArray, List.set_cons_zero, List.set_cons_succ])
      (first | (refine take_held (i := 7) (d := (some 22)) (v := ?_) rfl rfl (by kernel_rfl) (by kernel_rfl) (by kernel_rfl) (fun _ _ _ h => h) (Or.inl ⟨by rfl, ?_⟩) (by assumption) ?_; rotate_left 1; focus ((intro w hSw; (try dsimp only at hSw); first | (go_simp; done) | (go_simp; with_reducible rfl)); done); (try simp only [Act.put, List.setIfInBounds_toArray, List.set_cons_zero, List.set_cons_succ])))
      (try simp only [Act.put, List.setIfInBounds_toArray, List.set_cons_zero, List.set_cons_succ])
      (first | (refine take_held (i := 8) (d := (some 23)) (v := ?_) rfl rfl (by kernel_rfl) (by kernel_rfl) (by kernel_rfl) (fun _ _ _ h => h) (Or.inl ⟨by rfl, ?_⟩) (by assumption) ?_; rotate_left 1; focus ((intro w hSw; (try dsimp only at hSw); first | (go_simp; done) | (go_simp; with_reducible rfl)); done); (try simp only [Act.put, List.setIfInBounds_toArray, List.set_cons_zero, List.set_cons_succ])))
      (try simp only [Act.put, List.setIfInBounds_toArray, List.set_cons_zero, List.set_cons_succ])
      (first | (refine take_held (i := 9) (d := (some 24)) (v := ?_) rfl rfl (by kernel_rfl) (by kernel_rfl) (by kernel_rfl) (fun _ _ _ h => h) (Or.inl ⟨by rfl, ?_⟩) (by assumption) ?_; rotate_left 1; focus ((intro w hSw; (try dsimp only at hSw); first | (go_simp; done) | (go_simp; with_reducible rfl)); done); (try simp only [Act.put, List.setIfInBounds_toArray, List.set_cons_zero, List.set_cons_succ])))
      (try simp only [Act.put, List.setIfInBounds_toArray, List.set_cons_zero, List.set_cons_succ])
      (first | (refine take_held (i := 10) (d := (some 25)) (v := ?_) rfl rfl (by kernel_rfl) (by kernel_rfl) (by kernel_rfl) (fun _ _ _ h => h) (Or.inl ⟨by rfl, ?_⟩) (by assumption) ?_; rotate_left 1; focus ((intro w hSw; (try dsimp only at hSw); first | (go_simp; done) | (go_simp; with_reducible rfl)); done); (try simp only [Act.put, List.setIfInBounds_toArray, List.set_cons_zero, List.set_cons_succ])))
      (try simp only [Act.put, List.setIfInBounds_toArray, List.set_cons_zero, List.set_cons_succ])
      (first | (refine take_held (i := 11) (d := (some 26)) (v := ?_) rfl rfl (by kernel_rfl) (by kernel_rfl) (by kernel_rfl) (fun _ _ _ h => h) (Or.inl ⟨by rfl, ?_⟩) (by assumption) ?_; rotate_left 1; focus ((intro w hSw; (try dsimp only at hSw); first | (go_simp; done) | (go_simp; with_reducible rfl)); done); (try simp only [Act.put, List.setIfInBounds_toArray, List.set_cons_zero, List.set_cons_succ])))
      (try simp only [Act.put, List.setIfInBounds_toArray, List.set_cons_zero, List.set_cons_succ])
      (first | (refine take_held (i := 13) (d := (some 28)) (v := ?_) rfl rfl (by kernel_rfl) (by kernel_rfl) (by kernel_rfl) (fun _ _ _ h => h) (Or.inl ⟨by rfl, ?_⟩) (by assumption) ?_; rotate_left 1; focus ((intro w hSw; (try dsimp only at hSw); first | (go_simp; done) | (go_simp; with_reducible rfl)); done); (try simp only [Act.put, List.setIfInBounds_toArray, List.set_cons_zero, List.set_cons_succ])))
      (try simp only [Act.put, List.setIfInBounds_toArray, List.set_cons_zero, List.set_cons_succ])
      (first | (refine take_held (i := 14) (d := (some 29)) (v := ?_) rfl rfl (by kernel_rfl) (by kernel_rfl) (by kernel_rfl) (fun _ _ _ h => h) (Or.inl ⟨by rfl, ?_⟩) (by assumption) ?_; rotate_left 1; focus ((intro w hSw; (try dsimp only at hSw); first | (go_simp; done) | (go_simp; with_reducible rfl)); done); (try simp only [Act.put, List.setIfInBounds_toArray, List.set_cons_zero, List.set_cons_succ])))
      (try simp only [Act.put, List.setIfInBounds_toArray, List.set_cons_zero, List.set_cons_succ])
      (first | (refine take_held (i := 15) (d := (some 30)) (v := ?_) rfl rfl (by kernel_rfl) (by kernel_rfl) (by kernel_rfl) (fun _ _ _ h => h) (Or.inl ⟨by rfl, ?_⟩) (by assumption) ?_; rotate_left 1; focus ((intro w hSw; (try dsimp only at hSw); first | (go_simp; done) | (go_simp; with_reducible rfl)); done); (try simp only [Act.put, List.setIfInBounds_toArray, List.set_cons_zero, List.set_cons_succ])))
      (try simp only [Act.put, List.setIfInBounds_toArray, List.set_cons_zero, List.set_cons_succ])
      (first | (refine take_held (i := 16) (d := (some 31)) (v := ?_) rfl rfl (by kernel_rfl) (by kernel_rfl) (by kernel_rfl) (fun _ _ _ h => h) (Or.inl ⟨by rfl, ?_⟩) (by assumption) ?_; rotate_left 1; focus ((intro w hSw; (try dsimp only at hSw); first | (go_simp; done) | (go_simp; with_reducible rfl)); done); (try simp only [Act.put, List.setIfInBounds_toArray, List.set_cons_zero, List.set_cons_succ])))
      (try simp only [Act.put, List.setIfInBounds_toArray, List.set_cons_zero, List.set_cons_succ])
      (first | (refine take_held (i := 17) (d := (some 32)) (v := ?_) rfl rfl (by kernel_rfl) (by kernel_rfl) (by kernel_rfl) (fun _ _ _ h => h) (Or.inl ⟨by rfl, ?_⟩) (by assumption) ?_; rotate_left 1; focus ((intro w hSw; (try dsimp only at hSw); first | (go_simp; done) | (go_simp; with_reducible rfl)); done); (try simp only [Act.put, List.setIfInBounds_toArray, List.set_cons_zero, List.set_cons_succ])))
      (try simp only [Act.put, List.setIfInBounds_toArray, List.set_cons_zero, List.set_cons_succ])
      (first | (refine take_held (i := 18) (d := (some 33)) (v := ?_) rfl rfl (by kernel_rfl) (by kernel_rfl) (by kernel_rfl) (fun _ _ _ h => h) (Or.inl ⟨by rfl, ?_⟩) (by assumption) ?_; rotate_left 1; focus ((intro w hSw; (try dsimp only at hSw); first | (go_simp; done) | (go_simp; with_reducible rfl)); done); (try simp only [Act.put, List.setIfInBounds_toArray, List.set_cons_zero, List.set_cons_succ])))
      (try simp only [Act.put, List.setIfInBounds_toArray, List.set_cons_zero, List.set_cons_succ])
      (first | (refine take_held (i := 19) (d := (some 34)) (v := ?_) rfl rfl (by kernel_rfl) (by kernel_rfl) (by kernel_rfl) (fun _ _ _ h => h) (Or.inl ⟨by rfl, ?_⟩) (by assumption) ?_; rotate_left 1; focus ((intro w hSw; (try dsimp only at hSw); first | (go_simp; done) | (go_simp; with_reducible rfl)); done); (try simp only [Act.put, List.setIfInBounds_toArray, List.set_cons_zero, List.set_cons_succ])))
      (try simp only [Act.put, List.setIfInBounds_toArray, List.set_cons_zero, List.set_cons_succ])
      (first | (refine take_held (i := 20) (d := (some 35)) (v := ?_) rfl rfl (by kernel_rfl) (by kernel_rfl) (by kernel_rfl) (fun _ _ _ h => h) (Or.inl ⟨by rfl, ?_⟩) (by assumption) ?_; rotate_left 1; focus ((intro w hSw; (try dsimp only at hSw); first | (go_simp; done) | (go_simp; with_reducible rfl)); done); (try simp only [Act.put, List.setIfInBounds_toArray, List.set_cons_zero, List.set_cons_succ])))
      (try simp only [Act.put, List.setIfInBounds_toArray, List.set_cons_zero, List.set_cons_succ])
      (first
        | (refine wpAnyH_ready (rs := [6]) (by kernel_rfl) (by simp) ?_; refine AllReadyH.cons (o := _) rfl (fun K hK => ?_) AllReadyH.nil; go_simp; (go_at_call 14; refine (HC1.out _ _ _ _ _ (hr.below (And.left hHeld))).mono ?_; rintro e_ wA ⟨r1, rfl, hbA⟩); (try go_wp2_with fail); refine hK.out _ _ (by (try dsimp only); ((refine and_of (fun hB_ => ⟨cell_up hB_ x0, cell_up hB_ x1, cell_up hB_ x2, cell_up hB_ x3, cell_up hB_ x4, cell_up hB_ x5, cell_up hB_ x6, cell_up hB_ x7, cell_up hB_ x8, cell_up hB_ x9, cell_up hB_ x10⟩) ?_; first | (with_reducible exact (Below.refl _ _).drew) | (with_reducible exact below_call' (And.left hHeld) hbA) | (with_reducible exact And.left (by assumption))))) ?_; clear hHeld hK K; intro hHeld; (try simp only [Act.put, List.setIfInBounds_toArray, List.set_cons_zero, List.set_cons_succ])))
      (first
        | (refine wpAnyH_ready (rs := [12]) (by kernel_rfl) (by simp) ?_; refine AllReadyH.cons (o := _) rfl (fun K hK => ?_) AllReadyH.nil; go_simp; (go_at_call 14; refine (HC2.out _ _ _ _ _ (hu.below (And.left hHeld))).mono ?_; rintro e_ wB ⟨r2, rfl, hbB⟩); (try go_wp2_with fail); refine hK.out _ _ (by (try dsimp only); ((refine and_of (fun hB_ => ⟨cell_up hB_ x0, cell_up hB_ x1, cell_up hB_ x2, cell_up hB_ x3, cell_up hB_ x4, cell_up hB_ x5, cell_up hB_ x6, cell_up hB_ x7, cell_up hB_ x8, cell_up hB_ x9, cell_up hB_ x10⟩) ?_; first | (with_reducible exact (Below.refl _ _).drew) | (with_reducible exact below_call' (And.left hHeld) hbB) | (with_reducible exact And.left (by assumption))))) ?_; clear hHeld hK K; intro hHeld; (try simp only [Act.put, List.setIfInBounds_toArray, List.set_cons_zero, List.set_cons_succ])))
      (first | (refine take_held (i := 21) (d := (some 36)) (v := ?_) rfl rfl (by kernel_rfl) (by kernel_rfl) (by kernel_rfl) (fun _ _ _ h => h) (Or.inl ⟨by rfl, ?_⟩) (by assumption) ?_; rotate_left 1; focus ((intro w hSw; (try dsimp only at hSw); first | (go_simp; done) | (go_simp; with_reducible rfl)); done); (try simp only [Act.put, List.setIfInBounds_toArray, List.set_cons_zero, List.set_cons_succ])))
      (try simp only [Act.put, List.setIfInBounds_toArray, List.set_cons_zero, List.set_cons_succ])
      (first | (refine take_held (i := 22) (d := (some 3)) (v := ?_) rfl rfl (by kernel_rfl) (by kernel_rfl) (by kernel_rfl) (fun _ _ _ h => h) (Or.inl ⟨by rfl, ?_⟩) (by assumption) ?_; rotate_left 1; focus ((intro w hSw; (try dsimp only at hSw); first | (go_simp; done) | (go_simp; with_reducible rfl)); done); (try simp only [Act.put, List.setIfInBounds_toArray, List.set_cons_zero, List.set_cons_succ])))
      (try simp only [Act.put, List.setIfInBounds_toArray, List.set_cons_zero, List.set_cons_succ])
      (try simp only [Act.put, List.setIfInBounds_toArray, List.set_cons_zero, List.set_cons_succ])
      refine wpAnyH_done (by kernel_rfl) ?_ _
      have BE := chain br (below_call' (And.left hHeld) (Below.refl _ _))
      clear x0 x1 x2 x3 x4 x5 x6 x7 x8 x9 x10 hr hu hHeld br
      have hw2 : wrap64 ((i : Int) + 1) = (i : Int) + 1 := wrap_ok (by omega) (by omega)
      go_wp2
      all_goals (
        go_roundg k1
        case measure => omega
        case rel => exact ⟨i + 1, _, rfl, (by first | rfl | (simp; done) | (push_cast; rfl)), by have := HK.out; omega, BE⟩)
    · have hx : (decide ((i : Int) < (l.length : Int)) = false ∧ decide (i < l.length) = false) ∨ (decide ((i : Int) < (l.length : Int)) = true ∧ decide (i < l.length) = true ∧ decide ((i : Int) < 20) = false ∧ decide (i < 20) = false) := by
        by_cases h1 : i < l.length
        · have h2 : ¬ (i : Int) < 20 := fun h => hi ⟨h1, h⟩
          exact .inr ⟨decide_eq_true (by omega), decide_eq_true h1, decide_eq_false h2, decide_eq_false (by omega)⟩
        · exact .inl ⟨decide_eq_false (by omega), decide_eq_false h1⟩
      have hy : decide ((l.length : Int) > 12) = true ∧ decide (12 < l.length) = true ∧ decide (12 < (l.length : Int)) = true ∨ decide ((l.length : Int) > 12) = false ∧ decide (12 < l.length) = false ∧ decide (12 < (l.length : Int)) = false := by
        by_cases h : 12 < l.length
        · exact .inl ⟨decide_eq_true (by omega), decide_eq_true h, decide_eq_true (by omega)⟩
        · exact .inr ⟨decide_eq_false (by omega), decide_eq_false h, decide_eq_false (by omega)⟩
      clear hi hk
      rcases hx with ⟨x1, x2⟩ | ⟨x1, x2, x3, x4⟩
      all_goals (
        rcases hy with ⟨y1, y2, y3⟩ | ⟨y1, y2, y3⟩
        all_goals (
          go_wp2
          go_ret
          exact ⟨_, rfl, br⟩))
end Go.Proofs.Ytnfnhjhnfdkinaa.PConvBack
namespace Go.Proofs.Ytnfnhjhnfdkinaa.PConvBack
open Go.RowKit Go.Proofs.YtnfnhjhnfdkinaaW.Mine Go.Proofs.YtnfnhjhnfdkinaaW.PrintWords Go.Proofs.YtnfnhjhnfdkinaaW.PrintLast Go.Proofs.YtnfnhjhnfdkinaaW.PrintMore
set_option linter.unusedVariables false
set_option linter.unusedSimpArgs false
def RL (w : World) (A : Option Addr) (c : Nat) (l : List Ty) : Prop := kTy.C w A l.length l ∧ l.length ≤ c
theorem RL.below {w w1 : World} {A : Option Addr} {c : Nat} {l : List Ty} (h : RL w A c l) (hb : Below w.heap.size w w1) : RL w1 A c l := ⟨Kd.C_below h.1 hb, h.2⟩
theorem lhas_c {x : Ty} (o : Okt x) : ∃ b : Bool, (b = false → Nofun x) ∧ ∀ {A3 A4 : Option Addr} {c3 c4 : Nat} {w : World}, RT w x A3 c3 A4 c4 →
    Calls Try.prog 32 #[tv x A3 c3 A4 c4, .int .i64 7] w fun e w' => e = .returned (.bool b) ∧ Below w.heap.size w w' := by
  obtain ⟨r, hr, hp⟩ := has_told 7 _ x (Nat.lt_succ_self _) o
  obtain ⟨k, hk⟩ := hr.rounds
  exact ⟨r, fun h => hp h rfl, fun h => (limbeckref04_Has.calls k x.f0 x.f1 x.f2 _ _ x.f3 _ _ x.f4 7 r _ h.2.1 h.1 h.2.2.2 h.2.2.1 hk).mono fun e w' k => k⟩
theorem lreps_c {l : List Se} (o : Oks l) (a : Nat) (ha : a ≤ l.length) {A : Option Addr} {c : Nat} {w : World} (h : RS w A c l) :
    Calls Try.prog 42 #[.slice A l.length c, .int .i64 a] w fun e w' => ∃ B d, e = .returned (.slice B (repsL l a).length d) ∧ RL w' B d (repsL l a) ∧ Below w.heap.size w w' := by
  obtain ⟨k, hk⟩ := reps_told l o.len a ha
  refine (limbecklaw31_reps.calls k (fun k => k < w.heap.size) A c l a _ w (Kd.V_mk h.2 (Kd.C_F heapSe h.1)) hk).mono ?_
  rintro e w' ⟨v, rfl, hN, hb⟩
  obtain ⟨B, d, rfl⟩ := Kd.N_slice hN
  exact ⟨B, d, rfl, ⟨(Kd.N_reads' hN).2.2, (Kd.N_reads' hN).2.1⟩, hb⟩
/-- A type comes, and a truth. -/
def OpOut (w : World) (u : Ty) (b : Bool) (e : Ending) (w' : World) : Prop := ∃ A3 c3 A4 c4, e = .returned (.tuple #[tv u A3 c3 A4 c4, .bool b]) ∧ RT w' u A3 c3 A4 c4 ∧ Below w.heap.size w w'
theorem repsL_okt {l : List Se} (o : Oks l) (a : Nat) : ∀ y, y ∈ repsL l a → Okt y := fun y hy => by
  unfold repsL at hy
  obtain ⟨s, hs, rfl⟩ := List.mem_map.1 hy
  exact o.rep s (List.mem_of_mem_drop hs)
/-! ### told apart from a block g -/
def RTg (w : World) (g : Nat) (x : Ty) (A3 : Option Addr) (c3 : Nat) (A4 : Option Addr) (c4 : Nat) : Prop := FT w (fun k => k ≠ g) x A3 c3 A4 c4
def RSg (w : World) (g : Nat) (A : Option Addr) (c : Nat) (l : List Se) : Prop := Kd.F kSe w (fun k => k ≠ g) A l.length l ∧ l.length ≤ c
def RLg (w : World) (g : Nat) (A : Option Addr) (c : Nat) (l : List Ty) : Prop := Kd.F kTy w (fun k => k ≠ g) A l.length l ∧ l.length ≤ c
section
variable {w w1 : World} {g : Nat} {A A3 A4 : Option Addr} {c c3 c4 : Nat} {x : Ty}
theorem RTg.below (h : RTg w g x A3 c3 A4 c4) (hb : Below w.heap.size w w1) : RTg w1 g x A3 c3 A4 c4 := FT.below h hb
theorem RSg.below {l : List Se} (h : RSg w g A c l) (hb : Below w.heap.size w w1) : RSg w1 g A c l := ⟨Kd.F_below h.1 hb, h.2⟩
theorem RLg.below {l : List Ty} (h : RLg w g A c l) (hb : Below w.heap.size w w1) : RLg w1 g A c l := ⟨Kd.F_below h.1 hb, h.2⟩
theorem RT.ag (h : RT w x A3 c3 A4 c4) : RTg w w.heap.size x A3 c3 A4 c4 := FT.mono h.ft (fun k hk => Nat.ne_of_lt hk)
theorem RL.ag {l : List Ty} (h : RL w A c l) : RLg w w.heap.size A c l := ⟨Kd.F_mono (Kd.C_F heapTy h.1) (fun k hk => Nat.ne_of_lt hk), h.2⟩
theorem RT.gg (h : RT w x A3 c3 A4 c4) (hb : Below w.heap.size w w1) (hg : w.heap.size ≤ g) : RTg w1 g x A3 c3 A4 c4 := (h.ft.mono (fun k hk => by omega)).below hb
theorem RS.gg {l : List Se} (h : RS w A c l) (hb : Below w.heap.size w w1) (hg : w.heap.size ≤ g) : RSg w1 g A c l := ⟨Kd.F_below (Kd.F_mono (Kd.C_F heapSe h.1) (fun k hk => by omega)) hb, h.2⟩
theorem RTg.rt (h : RTg w g x A3 c3 A4 c4) : RT w x A3 c3 A4 c4 := FT.rt h
theorem RTg.stored (h : RTg w g x A3 c3 A4 c4) (v0 v1 v2 v3 v4 : Value) : RTg (((((w.setCell ⟨g, 0, none⟩ v0).setCell ⟨g, 1, none⟩ v1).setCell ⟨g, 2, none⟩ v2).setCell ⟨g, 3, none⟩ v3).setCell ⟨g, 4, none⟩ v4) g x A3 c3 A4 c4 := FT.stored h (fun _ hk => hk) v0 v1 v2 v3 v4
theorem RLg.stored {l : List Ty} (h : RLg w g A c l) (v0 v1 v2 v3 v4 : Value) : RLg (((((w.setCell ⟨g, 0, none⟩ v0).setCell ⟨g, 1, none⟩ v1).setCell ⟨g, 2, none⟩ v2).setCell ⟨g, 3, none⟩ v3).setCell ⟨g, 4, none⟩ v4) g A c l :=
  ⟨Kd.F_far (Kd.F_far (Kd.F_far (Kd.F_far (Kd.F_far h.1 (p := ⟨g, 0, none⟩) (fun _ hk => hk) v0) (p := ⟨g, 1, none⟩) (fun _ hk => hk) v1) (p := ⟨g, 2, none⟩) (fun _ hk => hk) v2) (p := ⟨g, 3, none⟩) (fun _ hk => hk) v3) (p := ⟨g, 4, none⟩) (fun _ hk => hk) v4, h.2⟩
end
def OpOutg (w : World) (g : Nat) (u : Ty) (b : Bool) (e : Ending) (w' : World) : Prop := ∃ A3 c3 A4 c4, e = .returned (.tuple #[tv u A3 c3 A4 c4, .bool b]) ∧ RTg w' g u A3 c3 A4 c4 ∧ Below w.heap.size w w'
theorem lreps_g {l : List Se} (o : Oks l) (a : Nat) (ha : a ≤ l.length) {A : Option Addr} {c g : Nat} {w : World} (hg : g < w.heap.size) (h : RSg w g A c l) :
    Calls Try.prog 42 #[.slice A l.length c, .int .i64 a] w fun e w' => ∃ B d, e = .returned (.slice B (repsL l a).length d) ∧ RLg w' g B d (repsL l a) ∧ Below w.heap.size w w' := by
  obtain ⟨k, hk⟩ := reps_told l o.len a ha
  refine (limbecklaw31_reps.calls k (fun k => k ≠ g) A c l a _ w (Kd.V_mk h.2 h.1) hk).mono ?_
  rintro e w' ⟨v, rfl, hN, hb⟩
  obtain ⟨B, d, rfl⟩ := Kd.N_slice hN
  exact ⟨B, d, rfl, ⟨Kd.F_mono (Kd.N_F hN) (fun k hk => by omega), (Kd.N_reads' hN).2.1⟩, hb⟩
theorem ropen_c {l : List Se} (o : Oks l) (a : Nat) (ha : a ≤ l.length) (hl : l.length ≤ 1073741824) {t : Ty} (ot : Okt t) (sn : Sn t) : ∃ (b : Bool) (u : Ty), Okt u ∧ (b = true → u = plain (opF l a) t) ∧
    (∀ {L A3 A4 : Option Addr} {cL c3 c4 : Nat} {w : World}, RL w L cL (repsL l a) → RT w t A3 c3 A4 c4 →
      Calls Try.prog 28 #[tv t A3 c3 A4 c4, .int .i64 a, .slice L (repsL l a).length cL] w (OpOut w u b)) ∧
    (∀ {L A3 A4 : Option Addr} {cL c3 c4 g : Nat} {w : World}, g < w.heap.size → RLg w g L cL (repsL l a) → RTg w g t A3 c3 A4 c4 →
      Calls Try.prog 28 #[tv t A3 c3 A4 c4, .int .i64 a, .slice L (repsL l a).length cL] w (OpOutg w g u b)) := by
  obtain ⟨b, k, hk⟩ := open_told (a := (a : Int)) (by omega) (by omega) (l := repsL l a) (by rw [repsL_len]; omega) (repsL_okt o a) ot sn
  obtain ⟨u, hu, hp, ou⟩ : ∃ u : Ty, limbeckref07_Open.f k t.f0 t.f1 t.f2 t.f3 t.f4 a (repsL l a) = some (u.f0, u.f1, u.f2, u.f3, u.f4, b) ∧ (b = true → u = plain (opF l a) t) ∧ Okt u := by
    cases b with
    | true => exact ⟨plain (opF l a) t, hk, fun _ => rfl, plain_okt _ (fun x u h => turnOpen_okt (repsL_okt o a) x u h) t ot⟩
    | false => exact ⟨z25, hk, (fun h => absurd h (by decide)), (Okt.mk _ (Nat.zero_le _) (Nat.zero_le _) (fun y hy => absurd hy (by intro h; cases h)))⟩
  refine ⟨b, u, ou, hp, fun {L A3 A4 cL c3 c4 w} hC ht => ?_, fun {L A3 A4 cL c3 c4 g w} hg hC ht => ?_⟩
  · have hf := ht.ft
    refine (limbeckref07_Open.calls k t.f0 t.f1 t.f2 _ A3 c3 t.f3 _ A4 c4 t.f4 a (fun k => k < w.heap.size) L cL (repsL l a) _ _ _ _ _ _ w (Kd.V_mk hf.1 hf.2.1) (Kd.V_mk hf.2.2.1 hf.2.2.2) (Kd.V_mk hC.2 (Kd.C_F heapTy hC.1)) hu).mono ?_
    rintro e w' ⟨v3, v4, rfl, ⟨B3, d3, rfl, h3, f3⟩, ⟨B4, d4, rfl, h4, f4⟩, hb⟩
    exact ⟨B3, d3, B4, d4, rfl, ⟨h3, Kd.F_now f3, h4, Kd.F_now f4⟩, hb⟩
  · refine (limbeckref07_Open.calls k t.f0 t.f1 t.f2 (fun k => k ≠ g) A3 c3 t.f3 (fun k => k ≠ g) A4 c4 t.f4 a (fun k => k ≠ g) L cL (repsL l a) _ _ _ _ _ _ w (Kd.V_mk ht.1 ht.2.1) (Kd.V_mk ht.2.2.1 ht.2.2.2) (Kd.V_mk hC.2 hC.1) hu).mono ?_
    rintro e w' ⟨v3, v4, rfl, ⟨B3, d3, rfl, h3, f3⟩, ⟨B4, d4, rfl, h4, f4⟩, hb⟩
    exact ⟨B3, d3, B4, d4, rfl, ⟨h3, Kd.F_mono f3 (fun k hk => by omega), h4, Kd.F_mono f4 (fun k hk => by omega)⟩, hb⟩
theorem is_says {l : List Se} (o : Oks l) {v : Vl} (ov : Okv v) {t : Ty} (ot : Okt t) : ∃ b : Bool, (b = true ↔ IsT l v t) ∧ ∀ {AL A6 A7 A8 A3 A4 : Option Addr} {cL c6 c7 c8 c3 c4 : Nat} {w : World}, RS w AL cL l → RV w v A6 c6 A7 c7 A8 c8 → RT w t A3 c3 A4 c4 →
    Calls Try.prog 43 #[.slice AL l.length cL, vv v A6 c6 A7 c7 A8 c8, tv t A3 c3 A4 c4] w (BOut w b) :=
  ⟨isB l (SizeOf.sizeOf v + 1) v t, Iff.rfl, fun hL hv ht => is_c l ⟨by have := o.len; omega, o.rep⟩ _ v (Nat.lt_succ_self _) ov t ot _ _ _ _ _ _ _ _ _ _ _ _ _ hL.1 hv ht⟩
end Go.Proofs.Ytnfnhjhnfdkinaa.PConvBack
namespace Go.Proofs.Ytnfnhjhnfdkinaa.PConvBack
open Go.RowKit Go.Proofs.YtnfnhjhnfdkinaaW.Mine Go.Proofs.YtnfnhjhnfdkinaaW.PrintWords Go.Proofs.YtnfnhjhnfdkinaaW.PrintLast Go.Proofs.YtnfnhjhnfdkinaaW.PrintMore
attribute [local go_sem] max2_int min2_int max_two min_two max_three min_three max_four min_four
set_option linter.unusedVariables false
set_option linter.unusedSimpArgs false
/-- A value told apart from a block g. -/
def RVg (w : World) (g : Nat) (x : Vl) (A6 : Option Addr) (c6 : Nat) (A7 : Option Addr) (c7 : Nat) (A8 : Option Addr) (c8 : Nat) : Prop := FV w (fun k => k ≠ g) x A6 c6 A7 c7 A8 c8
section
variable {w w1 : World} {g : Nat} {A6 A7 A8 : Option Addr} {c6 c7 c8 : Nat} {x : Vl}
theorem RVg.below (h : RVg w g x A6 c6 A7 c7 A8 c8) (hb : Below w.heap.size w w1) : RVg w1 g x A6 c6 A7 c7 A8 c8 := FV.below h hb
theorem RV.ag (h : RV w x A6 c6 A7 c7 A8 c8) : RVg w w.heap.size x A6 c6 A7 c7 A8 c8 := FV.mono h.fv (fun k hk => Nat.ne_of_lt hk)
theorem RV.gg (h : RV w x A6 c6 A7 c7 A8 c8) (hb : Below w.heap.size w w1) (hg : w.heap.size ≤ g) : RVg w1 g x A6 c6 A7 c7 A8 c8 := (h.fv.mono (fun k hk => by omega)).below hb
theorem RVg.rv (h : RVg w g x A6 c6 A7 c7 A8 c8) : RV w x A6 c6 A7 c7 A8 c8 := FV.rv h
theorem RVg.stored10 (h : RVg w g x A6 c6 A7 c7 A8 c8) (v0 v1 v2 v3 v4 v5 v6 v7 v8 v9 : Value) : RVg ((((((((((w.setCell ⟨g, 0, none⟩ v0).setCell ⟨g, 1, none⟩ v1).setCell ⟨g, 2, none⟩ v2).setCell ⟨g, 3, none⟩ v3).setCell ⟨g, 4, none⟩ v4).setCell ⟨g, 5, none⟩ v5).setCell ⟨g, 6, none⟩ v6).setCell ⟨g, 7, none⟩ v7).setCell ⟨g, 8, none⟩ v8).setCell ⟨g, 9, none⟩ v9) g x A6 c6 A7 c7 A8 c8 := FV.stored h (fun _ hk => hk) v0 v1 v2 v3 v4 v5 v6 v7 v8 v9
theorem RV.leaf (w : World) (k n m : Int) (b : Bool) (s : ByteArray) (q : S52) : RV w ⟨k, n, m, b, s, q, [], [], []⟩ none 0 none 0 none 0 := ⟨Nat.le_refl _, Kd.C_nil _ w, Nat.le_refl _, Kd.C_nil _ w, Nat.le_refl _, Kd.C_nil _ w⟩
theorem RVg.leaf (w : World) (g : Nat) (k n m : Int) (b : Bool) (s : ByteArray) (q : S52) : RVg w g ⟨k, n, m, b, s, q, [], [], []⟩ none 0 none 0 none 0 := ⟨Nat.le_refl _, Kd.F_nil _ _ _, Nat.le_refl _, Kd.F_nil _ _ _, Nat.le_refl _, Kd.F_nil _ _ _⟩
theorem RT.leaf (w : World) (k n : Int) (s : ByteArray) : RT w ⟨k, n, s, [], []⟩ none 0 none 0 := ⟨Nat.le_refl _, Kd.C_nil _ w, Nat.le_refl _, Kd.C_nil _ w⟩
theorem RTg.leaf (w : World) (g : Nat) (k n : Int) (s : ByteArray) : RTg w g ⟨k, n, s, [], []⟩ none 0 none 0 := ⟨Nat.le_refl _, Kd.F_nil _ _ _, Nat.le_refl _, Kd.F_nil _ _ _⟩
end
/-- A value comes, and a truth. -/
def DoOut (w : World) (u : Vl) (b : Bool) (e : Ending) (w' : World) : Prop := ∃ A6 c6 A7 c7 A8 c8, e = .returned (.tuple #[vv u A6 c6 A7 c7 A8 c8, .bool b]) ∧ RV w' u A6 c6 A7 c7 A8 c8 ∧ Below w.heap.size w w'
def DoOutg (w : World) (g : Nat) (u : Vl) (b : Bool) (e : Ending) (w' : World) : Prop := ∃ A6 c6 A7 c7 A8 c8, e = .returned (.tuple #[vv u A6 c6 A7 c7 A8 c8, .bool b]) ∧ RVg w' g u A6 c6 A7 c7 A8 c8 ∧ Below w.heap.size w w'
theorem do_t {lo up : Int} {inn : Bool} {v u : Vl} {p : Ty} {b : Bool} (hd : doV lo up inn v p = if b = true then some u else none) (hz : b = false → u = zV) (ov : Okv v) (op : Okt p) (orr : Okr p) {A6 A7 A8 A3 A4 : Option Addr} {c6 c7 c8 c3 c4 : Nat} {w : World} (hv : RV w v A6 c6 A7 c7 A8 c8) (hp : RT w p A3 c3 A4 c4) :
    Calls Try.prog 44 #[vv v A6 c6 A7 c7 A8 c8, tv p A3 c3 A4 c4, .int .i64 lo, .int .i64 up, .bool inn] w (DoOut w u b) := by
  refine (do_c lo up inn v p ov op orr (ok := fun k => k < w.heap.size) (fun _ h => h) hv.fv hp.ft).mono ?_
  rintro e w' h
  rw [hd] at h
  cases b with
  | true => obtain ⟨hb, A6, c6, A7, c7, A8, c8, he, hf⟩ := h; exact ⟨A6, c6, A7, c7, A8, c8, he, hf.rv, hb⟩
  | false => obtain ⟨hb, he⟩ := h; rw [hz rfl]; exact ⟨none, 0, none, 0, none, 0, he, RV.zero _, hb⟩
theorem do_g {lo up : Int} {inn : Bool} {v u : Vl} {p : Ty} {b : Bool} (hd : doV lo up inn v p = if b = true then some u else none) (hz : b = false → u = zV) (ov : Okv v) (op : Okt p) (orr : Okr p) {A6 A7 A8 A3 A4 : Option Addr} {c6 c7 c8 c3 c4 g : Nat} {w : World} (hg : g < w.heap.size) (hv : RVg w g v A6 c6 A7 c7 A8 c8) (hp : RTg w g p A3 c3 A4 c4) :
    Calls Try.prog 44 #[vv v A6 c6 A7 c7 A8 c8, tv p A3 c3 A4 c4, .int .i64 lo, .int .i64 up, .bool inn] w (DoOutg w g u b) := by
  refine (do_c lo up inn v p ov op orr (ok := fun k => k ≠ g ∧ k < w.heap.size) (fun _ h => h.2) (FV.bound hv) (FT.bound hp)).mono ?_
  rintro e w' h
  rw [hd] at h
  cases b with
  | true => obtain ⟨hb, A6, c6, A7, c7, A8, c8, he, hf⟩ := h; exact ⟨A6, c6, A7, c7, A8, c8, he, hf.mono (fun k hk => by omega), hb⟩
  | false => obtain ⟨hb, he⟩ := h; rw [hz rfl]; exact ⟨none, 0, none, 0, none, 0, he, RVg.leaf _ _ _ _ _ _ _ _, hb⟩
abbrev sealT (n : Int) : Ty := ⟨9, n, ⟨#[]⟩, [], []⟩
abbrev funT (a b : Ty) : Ty := ⟨7, 0, ⟨#[]⟩, [], [⟨a.f0, a.f1, a.f2, a.f3, a.f4⟩, ⟨b.f0, b.f1, b.f2, b.f3, b.f4⟩]⟩
set_option maxHeartbeats 4000000 in
set_option maxRecDepth 100000 in
theorem mkseal_c (n : Int) {w : World} : Calls Try.prog 77 #[.int .i64 n] w fun e w' => e = .returned (tv (sealT n) none 0 none 0) ∧ Below w.heap.size w w' := by
  have kN := blk_new w (.cells (tarr (sealT n) none 0 none 0) 25)
  have b0 := below_alloc1 w (.cells (tarr (sealT n) none 0 none 0) 25)
  have KN := Aside0.mk kN
  have BN := Aside0.mk b0
  clear kN b0
  go_enter Try.func77, Try.ntmps77
  go_wp2
  (try simp only [Exit.inBlock, Exit.then]); refine bodyPost_ret (results_cell_row rfl _ _ _ 25 _ (0, 0) _ rfl KN.out Try.underlying25 rfl (by kernel_rfl)) rfl ?_
  exact ⟨rfl, BN.out⟩
theorem mkfun_c (a b : Ty) {A3 A4 B3 B4 : Option Addr} {c3 c4 d3 d4 : Nat} {w : World} (ha : RT w a A3 c3 A4 c4) (hb : RT w b B3 d3 B4 d4) :
    Calls Try.prog 53 #[tv a A3 c3 A4 c4, tv b B3 d3 B4 d4] w fun e w' => ∃ A3 c3 A4 c4, e = .returned (tv (funT a b) A3 c3 A4 c4) ∧ RT w' (funT a b) A3 c3 A4 c4 ∧ Below w.heap.size w w' := by
  have hf := ha.ft
  have kf := hb.ft
  refine (limbeckref04_Fun.calls a.f0 a.f1 a.f2 _ A3 c3 a.f3 _ A4 c4 a.f4 b.f0 b.f1 b.f2 _ B3 d3 b.f3 _ B4 d4 b.f4 _ _ _ _ _ w (Kd.V_mk hf.1 hf.2.1) (Kd.V_mk hf.2.2.1 hf.2.2.2) (Kd.V_mk kf.1 kf.2.1) (Kd.V_mk kf.2.2.1 kf.2.2.2) rfl).mono ?_
  rintro e w' ⟨v3, v4, rfl, h3, h4, hb⟩
  obtain ⟨B3, d3, rfl, g3, f3⟩ := Kd.R_reads h3
  obtain ⟨B4, d4, rfl⟩ := Kd.N_slice h4
  exact ⟨B3, d3, B4, d4, rfl, ⟨g3, f3, (Kd.N_reads' h4).2.1, (Kd.N_reads' h4).2.2⟩, hb⟩
abbrev intV (n : Int) : Vl := ⟨1, n, 0, false, ⟨#[]⟩, z52, [], [], []⟩
abbrev inV (n : Int) (v : Vl) : Vl := ⟨8, n, 0, false, ⟨#[]⟩, z52, [], [], [v]⟩
theorem okv_int (n : Int) : Okv (intV n) := .mk _ (by simp) (by simp) (by simp) (by simp) (by simp)
theorem okv_in (n : Int) {v : Vl} (h : Okv v) : Okv (inV n v) := .mk _ (by simp) (by simp) (by simp) (by simp) (by simpa using h)
theorem okt_seal (n : Int) : Okt (sealT n) := .mk _ (by simp) (by simp) (by simp)
theorem okr_seal (n : Int) : Okr (sealT n) := .mk _ (fun h => by cases h) (fun h => by cases h)
theorem okt_fun (a b : Ty) (ha : Okt ⟨a.f0, a.f1, a.f2, a.f3, a.f4⟩) (hb : Okt ⟨b.f0, b.f1, b.f2, b.f3, b.f4⟩) : Okt (funT a b) := .mk _ (by simp) (by simp) (fun y hy => by
  rcases List.mem_cons.1 hy with rfl | hy
  · exact ha
  · obtain rfl := List.mem_singleton.1 hy; exact hb)
theorem do_w1 : doV 1 2 true (intV 3) (sealT 1) = if true = true then some (inV 1 (intV 3)) else none := by
  unfold doV; rw [turnV_seal (by rfl) rfl, sealV_in]; rfl
theorem do_w2 : doV 1 2 false (inV 1 (intV 3)) (sealT 1) = if true = true then some (intV 3) else none := by
  unfold doV; rw [turnV_seal (by rfl) rfl]; rfl
theorem do_w3 : doV 1 2 false (intV 3) (sealT 1) = if false = true then some zV else none := by
  unfold doV; rw [turnV_seal (by rfl) rfl]; rfl
theorem has_w : hasB 0 2 (funT (sealT 1) dynT) = true := by rfl
/-- What awake puts together, by letters. -/
theorem awake_vals : ∃ x y z : Vl, x.f1 = 3 ∧ y.f0 = 8 ∧ y.f1 = 1
    ∧ (∀ {w : World}, RV w x none 0 none 0 none 0) ∧ (∀ {w : World} {g : Nat}, RVg w g x none 0 none 0 none 0) ∧ x = intV 3
    ∧ (∀ {A6 A7 A8 : Option Addr} {c6 c7 c8 : Nat} {w : World}, RV w x A6 c6 A7 c7 A8 c8 → Calls Try.prog 44 #[vv x A6 c6 A7 c7 A8 c8, tv (sealT 1) none 0 none 0, .int .i64 1, .int .i64 2, .bool true] w (DoOut w y true))
    ∧ (∀ {A6 A7 A8 : Option Addr} {c6 c7 c8 g : Nat} {w : World}, g < w.heap.size → RVg w g x A6 c6 A7 c7 A8 c8 → Calls Try.prog 44 #[vv x A6 c6 A7 c7 A8 c8, tv (sealT 1) none 0 none 0, .int .i64 1, .int .i64 2, .bool true] w (DoOutg w g y true))
    ∧ (∀ {A6 A7 A8 : Option Addr} {c6 c7 c8 : Nat} {w : World}, RV w y A6 c6 A7 c7 A8 c8 → Calls Try.prog 44 #[vv y A6 c6 A7 c7 A8 c8, tv (sealT 1) none 0 none 0, .int .i64 1, .int .i64 2, .bool false] w (DoOut w x true))
    ∧ (∀ {A6 A7 A8 : Option Addr} {c6 c7 c8 g : Nat} {w : World}, g < w.heap.size → RVg w g y A6 c6 A7 c7 A8 c8 → Calls Try.prog 44 #[vv y A6 c6 A7 c7 A8 c8, tv (sealT 1) none 0 none 0, .int .i64 1, .int .i64 2, .bool false] w (DoOutg w g x true))
    ∧ (∀ {A6 A7 A8 : Option Addr} {c6 c7 c8 : Nat} {w : World}, RV w x A6 c6 A7 c7 A8 c8 → Calls Try.prog 44 #[vv x A6 c6 A7 c7 A8 c8, tv (sealT 1) none 0 none 0, .int .i64 1, .int .i64 2, .bool false] w (DoOut w z false))
    ∧ (∀ {A6 A7 A8 : Option Addr} {c6 c7 c8 g : Nat} {w : World}, g < w.heap.size → RVg w g x A6 c6 A7 c7 A8 c8 → Calls Try.prog 44 #[vv x A6 c6 A7 c7 A8 c8, tv (sealT 1) none 0 none 0, .int .i64 1, .int .i64 2, .bool false] w (DoOutg w g z false)) :=
  ⟨intV 3, inV 1 (intV 3), zV, rfl, rfl, rfl, RV.leaf _ _ _ _ _ _ _, RVg.leaf _ _ _ _ _ _ _ _, rfl,
   fun h => do_t do_w1 (fun h => by cases h) (okv_int 3) (okt_seal 1) (okr_seal 1) h (RT.leaf _ _ _ _),
   fun hg h => do_g do_w1 (fun h => by cases h) (okv_int 3) (okt_seal 1) (okr_seal 1) hg h (RTg.leaf _ _ _ _ _),
   fun h => do_t do_w2 (fun h => by cases h) (okv_in 1 (okv_int 3)) (okt_seal 1) (okr_seal 1) h (RT.leaf _ _ _ _),
   fun hg h => do_g do_w2 (fun h => by cases h) (okv_in 1 (okv_int 3)) (okt_seal 1) (okr_seal 1) hg h (RTg.leaf _ _ _ _ _),
   fun h => do_t do_w3 (fun _ => rfl) (okv_int 3) (okt_seal 1) (okr_seal 1) h (RT.leaf _ _ _ _),
   fun hg h => do_g do_w3 (fun _ => rfl) (okv_int 3) (okt_seal 1) (okr_seal 1) hg h (RTg.leaf _ _ _ _ _)⟩
end Go.Proofs.Ytnfnhjhnfdkinaa.PConvBack

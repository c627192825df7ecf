/-
  SitesStay: texts of this claim, put together by a program of this session. No conditions beyond what each lemma says.
-/
import Derived.Test.YtlenfmnkbepoiaazSitesStay18
namespace Go.Proofs.Ytlenfmnkbepoiaa.PSitesTell
open Go.RowKit Go.Proofs.YtlenfmnkbepoiaaW.Mine Go.Proofs.YtlenfmnkbepoiaaW.PrintWords Go.Proofs.YtlenfmnkbepoiaaW.PrintLast Go.Proofs.YtlenfmnkbepoiaaW.PrintMore
attribute [local go_sem] max2_int min2_int max_two min_two max_three min_three max_four min_four
set_option linter.unusedVariables false
set_option linter.unusedSimpArgs false
theorem belt {w : World} {A : Option Addr} {l : List Bi} (h : kBi.C w A l.length l) (i : Nat) (hi : i < l.length) : ∃ ad X3 e3 X4 e4, A = some ad ∧ RT w l[i].f1 X3 e3 X4 e4 ∧ w.cell? (ad.add (i * 6)) = some (.string l[i].f0) ∧ w.cell? ⟨(ad.add (i * 6)).block, (ad.add (i * 6)).off + 1, none⟩ = some (.int .i64 l[i].f1.f0) ∧ w.cell? ⟨(ad.add (i * 6)).block, (ad.add (i * 6)).off + 2, none⟩ = some (.int .i64 l[i].f1.f1) ∧ w.cell? ⟨(ad.add (i * 6)).block, (ad.add (i * 6)).off + 3, none⟩ = some (.string l[i].f1.f2) ∧ w.cell? ⟨(ad.add (i * 6)).block, (ad.add (i * 6)).off + 4, none⟩ = some (.slice X3 l[i].f1.f3.length e3) ∧ w.cell? ⟨(ad.add (i * 6)).block, (ad.add (i * 6)).off + 5, none⟩ = some (.slice X4 l[i].f1.f4.length e4) := by
  obtain ⟨ad, c, e, _, hfk, hc0, _⟩ := Kd.F_get (Kd.C_F heapBi h) z68 i (by omega) (by omega)
  rw [getD_at z68 l i hi] at hfk
  obtain ⟨X3, e3, X4, e4, rfl, hf⟩ := bi_of hfk
  have hc : ∀ j u, (blist l[i] X3 e3 X4 e4)[j]? = some u → w.cell? (ad.add (i * 6 + j)) = some u := hc0
  exact ⟨ad, X3, e3, X4, e4, e, hf.rt, hc 0 _ rfl, by rw [← add_field _ _ 1 (by omega)]; exact hc 1 _ rfl, by rw [← add_field _ _ 2 (by omega)]; exact hc 2 _ rfl, by rw [← add_field _ _ 3 (by omega)]; exact hc 3 _ rfl, by rw [← add_field _ _ 4 (by omega)]; exact hc 4 _ rfl, by rw [← add_field _ _ 5 (by omega)]; exact hc 5 _ rfl⟩
theorem same_of2 {x y : Bi} (h0 : x.f0 = y.f0) (h1 : x.f1 = y.f1) : x = y := by
  cases x; cases y; simp_all
set_option maxHeartbeats 4000000 in
set_option maxRecDepth 100000 in
theorem binds_s (l m : List Bi) (hs : ∀ y, y ∈ l → Okt y.f1) (hl : l.length ≤ 140737488351232) {A A' : Option Addr} {c c' : Nat} {w : World} (h : kBi.C w A l.length l) (h' : kBi.C w A' m.length m) :
    Calls Try.prog 72 #[.slice A l.length c, .slice A' m.length c'] w (SmOut (l = m) w) := by
  have h1 := Aside0.mk h
  have h2 := Aside0.mk h'
  have HL := Aside0.mk hl
  have HS := Aside0.mk hs
  clear h h' hl hs
  by_cases hlm : l.length = m.length
  · have c0 : ((l.length : Int) != (m.length : Int)) = false := ne_no (by omega)
    have HLM := Aside0.mk hlm
    clear hlm
    go_enter Try.func72, Try.ntmps72
    go_wp2_with fail
    go_loopg [5] l.length (fun kq v5 w' => ∃ (i : Nat), v5 = .int .i64 i ∧ kq + i = l.length ∧ l.take i = m.take i ∧ Below w.heap.size w w')
    case atStart => exact ⟨0, rfl, rfl, rfl, Below.refl _ _⟩
    case round =>
      obtain ⟨i, rfl, hk, ht, br⟩ := hrel
      by_cases hi : i < l.length
      · obtain ⟨k1, rfl⟩ : ∃ k1, gk = k1 + 1 := ⟨gk - 1, by omega⟩
        have hj : i < m.length := by have := HLM.out; omega
        have ci : decide ((i : Int) < (l.length : Int)) = true := decide_eq_true (by omega)
        have cj : decide ((i : Int) < (m.length : Int)) = true := decide_eq_true (by omega)
        have i0 : (0 : Int) ≤ (i : Int) := by omega
        have i1 : (i : Int) < (l.length : Int) := by omega
        have j1 : (i : Int) < (m.length : Int) := by omega
        obtain ⟨ad, X3, e3, X4, e4, eA, fx, x0, x1, x2, x3, x4, x5⟩ := belt h1.out i hi
        obtain ⟨bd, Y3, j3, Y4, j4, eB, fy, y0, y1, y2, y3, y4, y5⟩ := belt h2.out i hj
        subst eA eB
        replace x0 := cell_up br x0
        replace x1 := cell_up br x1
        replace x2 := cell_up br x2
        replace x3 := cell_up br x3
        replace x4 := cell_up br x4
        replace x5 := cell_up br x5
        replace y0 := cell_up br y0
        replace y1 := cell_up br y1
        replace y2 := cell_up br y2
        replace y3 := cell_up br y3
        replace y4 := cell_up br y4
        replace y5 := cell_up br y5
        replace fx := fx.below br
        replace fy := fy.below br
        have HK := Aside0.mk hk
        have HT := Aside0.mk ht
        clear hk ht
        by_cases he : l[i].f0 = m[i].f0
        · have ce := text_eq he
          have HE0 := Aside0.mk he
          clear he
          go_wp2_with fail
          refine wp_region_held_drew (S := (fun w' => Below wr.heap.size wr w' ∧ w'.cell? (ad.add (i * 6)) = some (.string l[i].f0) ∧ w'.cell? ⟨(ad.add (i * 6)).block, (ad.add (i * 6)).off + 1, none⟩ = some (.int .i64 l[i].f1.f0) ∧ w'.cell? ⟨(ad.add (i * 6)).block, (ad.add (i * 6)).off + 2, none⟩ = some (.int .i64 l[i].f1.f1) ∧ w'.cell? ⟨(ad.add (i * 6)).block, (ad.add (i * 6)).off + 3, none⟩ = some (.string l[i].f1.f2) ∧ w'.cell? ⟨(ad.add (i * 6)).block, (ad.add (i * 6)).off + 4, none⟩ = some (.slice X3 l[i].f1.f3.length e3) ∧ w'.cell? ⟨(ad.add (i * 6)).block, (ad.add (i * 6)).off + 5, none⟩ = some (.slice X4 l[i].f1.f4.length e4) ∧ w'.cell? (bd.add (i * 6)) = some (.string m[i].f0) ∧ w'.cell? ⟨(bd.add (i * 6)).block, (bd.add (i * 6)).off + 1, none⟩ = some (.int .i64 m[i].f1.f0) ∧ w'.cell? ⟨(bd.add (i * 6)).block, (bd.add (i * 6)).off + 2, none⟩ = some (.int .i64 m[i].f1.f1) ∧ w'.cell? ⟨(bd.add (i * 6)).block, (bd.add (i * 6)).off + 3, none⟩ = some (.string m[i].f1.f2) ∧ w'.cell? ⟨(bd.add (i * 6)).block, (bd.add (i * 6)).off + 4, none⟩ = some (.slice Y3 m[i].f1.f3.length j3) ∧ w'.cell? ⟨(bd.add (i * 6)).block, (bd.add (i * 6)).off + 5, none⟩ = some (.slice Y4 m[i].f1.f4.length j4))) (by kernel_rfl) ?_ (fun hHeld => ?_)
          · (try dsimp only)
            (refine and_of (fun hB_ => ⟨cell_up hB_ x0, cell_up hB_ x1, cell_up hB_ x2, cell_up hB_ x3, cell_up hB_ x4, cell_up hB_ x5, cell_up hB_ y0, cell_up hB_ y1, cell_up hB_ y2, cell_up hB_ y3, cell_up hB_ y4, cell_up hB_ y5⟩) ?_; first | (with_reducible exact (Below.refl _ _).drew) | (with_reducible exact below_call' (And.left (by assumption)) (by assumption)) | (with_reducible exact And.left (by assumption)))
          (first | (refine take_held (i := 0) (d := (some 23)) (v := ?_) rfl rfl (by kernel_rfl) (by kernel_rfl) (by kernel_rfl) (fun _ _ _ h => h) (Or.inl ⟨by rfl, ?_⟩) (by assumption) ?_; rotate_left 1; focus ((intro w hSw; (try dsimp only at hSw); first | (go_simp; done) | (go_simp; with_reducible rfl)); done); (try simp only [Act.put, List.setIfInBounds_toArray, List.set_cons_zero, List.set_cons_succ])))
          (try simp only [Act.put, List.setIfInBounds_toArray, List.set_cons_zero, List.set_cons_succ])
          (first | (refine take_held (i := 1) (d := (some 24)) (v := ?_) rfl rfl (by kernel_rfl) (by kernel_rfl) (by kernel_rfl) (fun _ _ _ h => h) (Or.inl ⟨by rfl, ?_⟩) (by assumption) ?_; rotate_left 1; focus ((intro w hSw; (try dsimp only at hSw); first | (go_simp; done) | (go_simp; with_reducible rfl)); done); (try simp only [Act.put, List.setIfInBounds_toArray, List.set_cons_zero, List.set_cons_succ])))
          (try simp only [Act.put, List.setIfInBounds_toArray, List.set_cons_zero, List.set_cons_succ])
          (first | (refine take_held (i := 2) (d := (some 25)) (v := ?_) rfl rfl (by kernel_rfl) (by kernel_rfl) (by kernel_rfl) (fun _ _ _ h => h) (Or.inl ⟨by rfl, ?_⟩) (by assumption) ?_; rotate_left 1; focus ((intro w hSw; (try dsimp only at hSw); first | (go_simp; done) | (go_simp; with_reducible rfl)); done); (try simp only [Act.put, List.setIfInBounds_toArray, List.set_cons_zero, List.set_cons_succ])))
          (try simp only [Act.put, List.setIfInBounds_toArray, List.set_cons_zero, List.set_cons_succ])
          (first | (refine take_held (i := 3) (d := (some 26)) (v := ?_) rfl rfl (by kernel_rfl) (by kernel_rfl) (by kernel_rfl) (fun _ _ _ h => h) (Or.inl ⟨by rfl, ?_⟩) (by assumption) ?_; rotate_left 1; focus ((intro w hSw; (try dsimp only at hSw); first | (go_simp; done) | (go_simp; with_reducible rfl)); done); (try simp only [Act.put, List.setIfInBounds_toArray, List.set_cons_zero, List.set_cons_succ])))
          (try simp only [Act.put, List.setIfInBounds_toArray, List.set_cons_zero, List.set_cons_succ])
          (first | (refine take_held (i := 4) (d := (some 27)) (v := ?_) rfl rfl (by kernel_rfl) (by kernel_rfl) (by kernel_rfl) (fun _ _ _ h => h) (Or.inl ⟨by rfl, ?_⟩) (by assumption) ?_; rotate_left 1; focus ((intro w hSw; (try dsimp only at hSw); first | (go_simp; done) | (go_simp; with_reducible rfl)); done); (try simp only [Act.put, List.setIfInBounds_toArray, List.set_cons_zero, List.set_cons_succ])))
          (try simp only [Act.put, List.setIfInBounds_toArray, List.set_cons_zero, List.set_cons_succ])
          (first | (refine take_held (i := 5) (d := (some 28)) (v := ?_) rfl rfl (by kernel_rfl) (by kernel_rfl) (by kernel_rfl) (fun _ _ _ h => h) (Or.inl ⟨by rfl, ?_⟩) (by assumption) ?_; rotate_left 1; focus ((intro w hSw; (try dsimp only at hSw); first | (go_simp; done) | (go_simp; with_reducible rfl)); done); (try simp only [Act.put, List.setIfInBounds_toArray, List.set_cons_zero, List.set_cons_succ])))
          (try simp only [Act.put, List.setIfInBounds_toArray, List.set_cons_zero, List.set_cons_succ])
          (first | (refine take_held (i := 6) (d := (some 29)) (v := ?_) rfl rfl (by kernel_rfl) (by kernel_rfl) (by kernel_rfl) (fun _ _ _ h => h) (Or.inl ⟨by rfl, ?_⟩) (by assumption) ?_; rotate_left 1; focus ((intro w hSw; (try dsimp only at hSw); first | (go_simp; done) | (go_simp; with_reducible rfl)); done); (try simp only [Act.put, List.setIfInBounds_toArray, List.set_cons_zero, List.set_cons_succ])))
          (try simp only [Act.put, List.setIfInBounds_toArray, List.set_cons_zero, List.set_cons_succ])
          (first | (refine take_held (i := 7) (d := (some 30)) (v := ?_) rfl rfl (by kernel_rfl) (by kernel_rfl) (by kernel_rfl) (fun _ _ _ h => h) (Or.inl ⟨by rfl, ?_⟩) (by assumption) ?_; rotate_left 1; focus ((intro w hSw; (try dsimp only at hSw); first | (go_simp; done) | (go_simp; with_reducible rfl)); done); (try simp only [Act.put, List.setIfInBounds_toArray, List.set_cons_zero, List.set_cons_succ])))
          (try simp only [Act.put, List.setIfInBounds_toArray, List.set_cons_zero, List.set_cons_succ])
          (first | (refine take_held (i := 8) (d := (some 31)) (v := ?_) rfl rfl (by kernel_rfl) (by kernel_rfl) (by kernel_rfl) (fun _ _ _ h => h) (Or.inl ⟨by rfl, ?_⟩) (by assumption) ?_; rotate_left 1; focus ((intro w hSw; (try dsimp only at hSw); first | (go_simp; done) | (go_simp; with_reducible rfl)); done); (try simp only [Act.put, List.setIfInBounds_toArray, List.set_cons_zero, List.set_cons_succ])))
          (try simp only [Act.put, List.setIfInBounds_toArray, List.set_cons_zero, List.set_cons_succ])
          (first | (refine take_held (i := 9) (d := (some 32)) (v := ?_) rfl rfl (by kernel_rfl) (by kernel_rfl) (by kernel_rfl) (fun _ _ _ h => h) (Or.inl ⟨by rfl, ?_⟩) (by assumption) ?_; rotate_left 1; focus ((intro w hSw; (try dsimp only at hSw); first | (go_simp; done) | (go_simp; with_reducible rfl)); done); (try simp only [Act.put, List.setIfInBounds_toArray, List.set_cons_zero, List.set_cons_succ])))
          (try simp only [Act.put, List.setIfInBounds_toArray, List.set_cons_zero, List.set_cons_succ])
          (first | (refine take_held (i := 10) (d := (some 33)) (v := ?_) rfl rfl (by kernel_rfl) (by kernel_rfl) (by kernel_rfl) (fun _ _ _ h => h) (Or.inl ⟨by rfl, ?_⟩) (by assumption) ?_; rotate_left 1; focus ((intro w hSw; (try dsimp only at hSw); first | (go_simp; done) | (go_simp; with_reducible rfl)); done); (try simp only [Act.put, List.setIfInBounds_toArray, List.set_cons_zero, List.set_cons_succ])))
          (try simp only [Act.put, List.setIfInBounds_toArray, List.set_cons_zero, List.set_cons_succ])
          (first | (refine take_held (i := 11) (d := (some 34)) (v := ?_) rfl rfl (by kernel_rfl) (by kernel_rfl) (by kernel_rfl) (fun _ _ _ h => h) (Or.inl ⟨by rfl, ?_⟩) (by assumption) ?_; rotate_left 1; focus ((intro w hSw; (try dsimp only at hSw); first | (go_simp; done) | (go_simp; with_reducible rfl)); done); (try simp only [Act.put, List.setIfInBounds_toArray, List.set_cons_zero, List.set_cons_succ])))
          (try simp only [Act.put, List.setIfInBounds_toArray, List.set_cons_zero, List.set_cons_succ])
          (first | (refine take_held (i := 12) (d := (some 35)) (v := ?_) rfl rfl (by kernel_rfl) (by kernel_rfl) (by kernel_rfl) (fun _ _ _ h => h) (Or.inl ⟨by rfl, ?_⟩) (by assumption) ?_; rotate_left 1; focus ((intro w hSw; (try dsimp only at hSw); first | (go_simp; done) | (go_simp; with_reducible rfl)); done); (try simp only [Act.put, List.setIfInBounds_toArray, List.set_cons_zero, List.set_cons_succ])) | (refine take_held (i := 12) (d := (some 35)) (v := undef) rfl rfl (by kernel_rfl) (by kernel_rfl) (by kernel_rfl) (fun _ _ _ h => h) (Or.inr ⟨by rfl, rfl⟩) (by assumption) ?_; (try simp only [Act.put, List.setIfInBounds_toArray, List.set_cons_zero, List.set_cons_succ])))
          (try simp only [Act.put, List.setIfInBounds_toArray, List.set_cons_zero, List.set_cons_succ])
          (first | (refine take_held (i := 13) (d := (some 36)) (v := ?_) rfl rfl (by kernel_rfl) (by kernel_rfl) (by kernel_rfl) (fun _ _ _ h => h) (Or.inl ⟨by rfl, ?_⟩) (by assumption) ?_; rotate_left 1; focus ((intro w hSw; (try dsimp only at hSw); first | (go_simp; done) | (go_simp; with_reducible rfl)); done); (try simp only [Act.put, List.setIfInBounds_toArray, List.set_cons_zero, List.set_cons_succ])) | (refine take_held (i := 13) (d := (some 36)) (v := undef) rfl rfl (by kernel_rfl) (by kernel_rfl) (by kernel_rfl) (fun _ _ _ h => h) (Or.inr ⟨by rfl, rfl⟩) (by assumption) ?_; (try simp only [Act.put, List.setIfInBounds_toArray, List.set_cons_zero, List.set_cons_succ])))
          (try simp only [Act.put, List.setIfInBounds_toArray, List.set_cons_zero, List.set_cons_succ])
          (first | (refine take_held (i := 14) (d := (some 37)) (v := ?_) rfl rfl (by kernel_rfl) (by kernel_rfl) (by kernel_rfl) (fun _ _ _ h => h) (Or.inl ⟨by rfl, ?_⟩) (by assumption) ?_; rotate_left 1; focus ((intro w hSw; (try dsimp only at hSw); first | (go_simp; done) | (go_simp; with_reducible rfl)); done); (try simp only [Act.put, List.setIfInBounds_toArray, List.set_cons_zero, List.set_cons_succ])) | (refine take_held (i := 14) (d := (some 37)) (v := undef) rfl rfl (by kernel_rfl) (by kernel_rfl) (by kernel_rfl) (fun _ _ _ h => h) (Or.inr ⟨by rfl, rfl⟩) (by assumption) ?_; (try simp only [Act.put, List.setIfInBounds_toArray, List.set_cons_zero, List.set_cons_succ])))
          (try simp only [Act.put, List.setIfInBounds_toArray, List.set_cons_zero, List.set_cons_succ])
          (first | (refine take_held (i := 15) (d := (some 38)) (v := ?_) rfl rfl (by kernel_rfl) (by kernel_rfl) (by kernel_rfl) (fun _ _ _ h => h) (Or.inl ⟨by rfl, ?_⟩) (by assumption) ?_; rotate_left 1; focus ((intro w hSw; (try dsimp only at hSw); first | (go_simp; done) | (go_simp; with_reducible rfl)); done); (try simp only [Act.put, List.setIfInBounds_toArray, List.set_cons_zero, List.set_cons_succ])) | (refine take_held (i := 15) (d := (some 38)) (v := undef) rfl rfl (by kernel_rfl) (by kernel_rfl) (by kernel_rfl) (fun _ _ _ h => h) (Or.inr ⟨by rfl, rfl⟩) (by assumption) ?_; (try simp only [Act.put, List.setIfInBounds_toArray, List.set_cons_zero, List.set_cons_succ])))
          (try simp only [Act.put, List.setIfInBounds_toArray, List.set_cons_zero, List.set_cons_succ])
          (first | (refine take_held (i := 16) (d := (some 39)) (v := ?_) rfl rfl (by kernel_rfl) (by kernel_rfl) (by kernel_rfl) (fun _ _ _ h => h) (Or.inl ⟨by rfl, ?_⟩) (by assumption) ?_; rotate_left 1; focus ((intro w hSw; (try dsimp only at hSw); first | (go_simp; done) | (go_simp; with_reducible rfl)); done); (try simp only [Act.put, List.setIfInBounds_toArray, List.set_cons_zero, List.set_cons_succ])) | (refine take_held (i := 16) (d := (some 39)) (v := undef) rfl rfl (by kernel_rfl) (by kernel_rfl) (by kernel_rfl) (fun _ _ _ h => h) (Or.inr ⟨by rfl, rfl⟩) (by assumption) ?_; (try simp only [Act.put, List.setIfInBounds_toArray, List.set_cons_zero, List.set_cons_succ])))
          (try simp only [Act.put, List.setIfInBounds_toArray, List.set_cons_zero, List.set_cons_succ])
          (first | (refine take_held (i := 17) (d := (some 40)) (v := ?_) rfl rfl (by kernel_rfl) (by kernel_rfl) (by kernel_rfl) (fun _ _ _ h => h) (Or.inl ⟨by rfl, ?_⟩) (by assumption) ?_; rotate_left 1; focus ((intro w hSw; (try dsimp only at hSw); first | (go_simp; done) | (go_simp; with_reducible rfl)); done); (try simp only [Act.put, List.setIfInBounds_toArray, List.set_cons_zero, List.set_cons_succ])) | (refine take_held (i := 17) (d := (some 40)) (v := undef) rfl rfl (by kernel_rfl) (by kernel_rfl) (by kernel_rfl) (fun _ _ _ h => h) (Or.inr ⟨by rfl, rfl⟩) (by assumption) ?_; (try simp only [Act.put, List.setIfInBounds_toArray, List.set_cons_zero, List.set_cons_succ])))
          (try simp only [Act.put, List.setIfInBounds_toArray, List.set_cons_zero, List.set_cons_succ])
          (first | (refine take_held (i := 18) (d := (some 41)) (v := ?_) rfl rfl (by kernel_rfl) (by kernel_rfl) (by kernel_rfl) (fun _ _ _ h => h) (Or.inl ⟨by rfl, ?_⟩) (by assumption) ?_; rotate_left 1; focus ((intro w hSw; (try dsimp only at hSw); first | (go_simp; done) | (go_simp; with_reducible rfl)); done); (try simp only [Act.put, List.setIfInBounds_toArray, List.set_cons_zero, List.set_cons_succ])) | (refine take_held (i := 18) (d := (some 41)) (v := undef) rfl rfl (by kernel_rfl) (by kernel_rfl) (by kernel_rfl) (fun _ _ _ h => h) (Or.inr ⟨by rfl, rfl⟩) (by assumption) ?_; (try simp only [Act.put, List.setIfInBounds_toArray, List.set_cons_zero, List.set_cons_succ])))
          (try simp only [Act.put, List.setIfInBounds_toArray, List.set_cons_zero, List.set_cons_succ])
          (first | (refine take_held (i := 19) (d := (some 42)) (v := ?_) rfl rfl (by kernel_rfl) (by kernel_rfl) (by kernel_rfl) (fun _ _ _ h => h) (Or.inl ⟨by rfl, ?_⟩) (by assumption) ?_; rotate_left 1; focus ((intro w hSw; (try dsimp only at hSw); first | (go_simp; done) | (go_simp; with_reducible rfl)); done); (try simp only [Act.put, List.setIfInBounds_toArray, List.set_cons_zero, List.set_cons_succ])) | (refine take_held (i := 19) (d := (some 42)) (v := undef) rfl rfl (by kernel_rfl) (by kernel_rfl) (by kernel_rfl) (fun _ _ _ h => h) (Or.inr ⟨by rfl, rfl⟩) (by assumption) ?_; (try simp only [Act.put, List.setIfInBounds_toArray, List.set_cons_zero, List.set_cons_succ])))
          (try simp only [Act.put, List.setIfInBounds_toArray, List.set_cons_zero, List.set_cons_succ])
          (first | (refine take_held (i := 20) (d := (some 43)) (v := ?_) rfl rfl (by kernel_rfl) (by kernel_rfl) (by kernel_rfl) (fun _ _ _ h => h) (Or.inl ⟨by rfl, ?_⟩) (by assumption) ?_; rotate_left 1; focus ((intro w hSw; (try dsimp only at hSw); first | (go_simp; done) | (go_simp; with_reducible rfl)); done); (try simp only [Act.put, List.setIfInBounds_toArray, List.set_cons_zero, List.set_cons_succ])) | (refine take_held (i := 20) (d := (some 43)) (v := undef) rfl rfl (by kernel_rfl) (by kernel_rfl) (by kernel_rfl) (fun _ _ _ h => h) (Or.inr ⟨by rfl, rfl⟩) (by assumption) ?_; (try simp only [Act.put, List.setIfInBounds_toArray, List.set_cons_zero, List.set_cons_succ])))
          (try simp only [Act.put, List.setIfInBounds_toArray, List.set_cons_zero, List.set_cons_succ])
          (first | (refine take_held (i := 21) (d := (some 44)) (v := ?_) rfl rfl (by kernel_rfl) (by kernel_rfl) (by kernel_rfl) (fun _ _ _ h => h) (Or.inl ⟨by rfl, ?_⟩) (by assumption) ?_; rotate_left 1; focus ((intro w hSw; (try dsimp only at hSw); first | (go_simp; done) | (go_simp; with_reducible rfl)); done); (try simp only [Act.put, List.setIfInBounds_toArray, List.set_cons_zero, List.set_cons_succ])) | (refine take_held (i := 21) (d := (some 44)) (v := undef) rfl rfl (by kernel_rfl) (by kernel_rfl) (by kernel_rfl) (fun _ _ _ h => h) (Or.inr ⟨by rfl, rfl⟩) (by assumption) ?_; (try simp only [Act.put, List.setIfInBounds_toArray, List.set_cons_zero, List.set_cons_succ])))
          (try simp only [Act.put, List.setIfInBounds_toArray, List.set_cons_zero, List.set_cons_succ])
          (first
            | (refine take_held (i := 22) (d := (some 45)) (v := undef) rfl rfl (by kernel_rfl) (by kernel_rfl) (by kernel_rfl) (fun _ _ _ h => h) (Or.inr ⟨by rfl, rfl⟩) (by assumption) ?_; (try simp only [Act.put, List.setIfInBounds_toArray, List.set_cons_zero, List.set_cons_succ]))
            | (refine wpAnyH_ready (rs := [22]) (by kernel_rfl) (by simp) ?_; refine AllReadyH.cons (o := _) rfl (fun K hK => ?_) AllReadyH.nil; go_simp; (go_at_call 17; refine (saysT l[i].f1 (HS.out _ (List.getElem_mem hi)) _ _ _ _ _ _ _ _ _ wr.drew (fx.below (Below.refl _ _).drew) (fy.below (Below.refl _ _).drew)).mono ?_; rintro e_ wA ⟨b, rfl, hbi, hbA⟩; have hbW := hbA); (try go_wp2_with fail); refine hK.out _ _ (by (try dsimp only); (refine and_of (fun hB_ => ⟨cell_up hB_ x0, cell_up hB_ x1, cell_up hB_ x2, cell_up hB_ x3, cell_up hB_ x4, cell_up hB_ x5, cell_up hB_ y0, cell_up hB_ y1, cell_up hB_ y2, cell_up hB_ y3, cell_up hB_ y4, cell_up hB_ y5⟩) ?_; first | (with_reducible exact (Below.refl _ _).drew) | (with_reducible exact below_call' (And.left (by assumption)) (by assumption)) | (with_reducible exact And.left (by assumption)))) ?_; clear hHeld hK K; intro hHeld; (try simp only [Act.put, List.setIfInBounds_toArray, List.set_cons_zero, List.set_cons_succ])))
          (first | (refine take_held (i := 23) (d := (some 46)) (v := ?_) rfl rfl (by kernel_rfl) (by kernel_rfl) (by kernel_rfl) (fun _ _ _ h => h) (Or.inl ⟨by rfl, ?_⟩) (by assumption) ?_; rotate_left 1; focus ((intro w hSw; (try dsimp only at hSw); first | (go_simp; done) | (go_simp; with_reducible rfl)); done); (try simp only [Act.put, List.setIfInBounds_toArray, List.set_cons_zero, List.set_cons_succ])) | (refine take_held (i := 23) (d := (some 46)) (v := undef) rfl rfl (by kernel_rfl) (by kernel_rfl) (by kernel_rfl) (fun _ _ _ h => h) (Or.inr ⟨by rfl, rfl⟩) (by assumption) ?_; (try simp only [Act.put, List.setIfInBounds_toArray, List.set_cons_zero, List.set_cons_succ])))
          (try simp only [Act.put, List.setIfInBounds_toArray, List.set_cons_zero, List.set_cons_succ])
          (first | (refine take_held (i := 24) (d := (some 47)) (v := ?_) rfl rfl (by kernel_rfl) (by kernel_rfl) (by kernel_rfl) (fun _ _ _ h => h) (Or.inl ⟨by rfl, ?_⟩) (by assumption) ?_; rotate_left 1; focus ((intro w hSw; (try dsimp only at hSw); first | (go_simp; done) | (go_simp; with_reducible rfl)); done); (try simp only [Act.put, List.setIfInBounds_toArray, List.set_cons_zero, List.set_cons_succ])))
          (try simp only [Act.put, List.setIfInBounds_toArray, List.set_cons_zero, List.set_cons_succ])
          (try simp only [Act.put, List.setIfInBounds_toArray, List.set_cons_zero, List.set_cons_succ])
          refine wpAnyH_done (by kernel_rfl) ?_ _
          have hbR := And.left hHeld
          clear hHeld
          have br2 := chain br hbR
          clear x0 x1 x2 x3 x4 x5 y0 y1 y2 y3 y4 y5 fx fy br hbR hbW
          cases b with
          | false =>
            have HE : Aside0 (¬ (l[i].f1 = m[i].f1)) := ⟨fun h => by simp [h] at hbi⟩
            clear hbi
            go_wp2
            go_ret
            exact SmOut.no (fun h => HE.out (by subst h; rfl)) br2
          | true =>
            have HE := Aside0.mk (hbi.1 rfl)
            clear hbi
            go_wp2
            go_roundg k1
            case measure => omega
            case rel => exact ⟨i + 1, (by rw [wrap_up (by have := HL.out; omega)]), by have := HK.out; omega, take_two hi hj HT.out (same_of2 HE0.out HE.out), br2⟩
        · have ce := text_ne he
          have HE0 := Aside0.mk he
          clear he
          go_wp2_with fail
          refine wp_region_held_drew (S := (fun w' => Below wr.heap.size wr w' ∧ w'.cell? (ad.add (i * 6)) = some (.string l[i].f0) ∧ w'.cell? ⟨(ad.add (i * 6)).block, (ad.add (i * 6)).off + 1, none⟩ = some (.int .i64 l[i].f1.f0) ∧ w'.cell? ⟨(ad.add (i * 6)).block, (ad.add (i * 6)).off + 2, none⟩ = some (.int .i64 l[i].f1.f1) ∧ w'.cell? ⟨(ad.add (i * 6)).block, (ad.add (i * 6)).off + 3, none⟩ = some (.string l[i].f1.f2) ∧ w'.cell? ⟨(ad.add (i * 6)).block, (ad.add (i * 6)).off + 4, none⟩ = some (.slice X3 l[i].f1.f3.length e3) ∧ w'.cell? ⟨(ad.add (i * 6)).block, (ad.add (i * 6)).off + 5, none⟩ = some (.slice X4 l[i].f1.f4.length e4) ∧ w'.cell? (bd.add (i * 6)) = some (.string m[i].f0) ∧ w'.cell? ⟨(bd.add (i * 6)).block, (bd.add (i * 6)).off + 1, none⟩ = some (.int .i64 m[i].f1.f0) ∧ w'.cell? ⟨(bd.add (i * 6)).block, (bd.add (i * 6)).off + 2, none⟩ = some (.int .i64 m[i].f1.f1) ∧ w'.cell? ⟨(bd.add (i * 6)).block, (bd.add (i * 6)).off + 3, none⟩ = some (.string m[i].f1.f2) ∧ w'.cell? ⟨(bd.add (i * 6)).block, (bd.add (i * 6)).off + 4, none⟩ = some (.slice Y3 m[i].f1.f3.length j3) ∧ w'.cell? ⟨(bd.add (i * 6)).block, (bd.add (i * 6)).off + 5, none⟩ = some (.slice Y4 m[i].f1.f4.length j4))) (by kernel_rfl) ?_ (fun hHeld => ?_)
          · (try dsimp only)
            (refine and_of (fun hB_ => ⟨cell_up hB_ x0, cell_up hB_ x1, cell_up hB_ x2, cell_up hB_ x3, cell_up hB_ x4, cell_up hB_ x5, cell_up hB_ y0, cell_up hB_ y1, cell_up hB_ y2, cell_up hB_ y3, cell_up hB_ y4, cell_up hB_ y5⟩) ?_; first | (with_reducible exact (Below.refl _ _).drew) | (with_reducible exact below_call' (And.left (by assumption)) (by assumption)) | (with_reducible exact And.left (by assumption)))
          (first | (refine take_held (i := 0) (d := (some 23)) (v := ?_) rfl rfl (by kernel_rfl) (by kernel_rfl) (by kernel_rfl) (fun _ _ _ h => h) (Or.inl ⟨by rfl, ?_⟩) (by assumption) ?_; rotate_left 1; focus ((intro w hSw; (try dsimp only at hSw); first | (go_simp; done) | (go_simp; with_reducible rfl)); done); (try simp only [Act.put, List.setIfInBounds_toArray, List.set_cons_zero, List.set_cons_succ])))
          (try simp only [Act.put, List.setIfInBounds_toArray, List.set_cons_zero, List.set_cons_succ])
          (first | (refine take_held (i := 1) (d := (some 24)) (v := ?_) rfl rfl (by kernel_rfl) (by kernel_rfl) (by kernel_rfl) (fun _ _ _ h => h) (Or.inl ⟨by rfl, ?_⟩) (by assumption) ?_; rotate_left 1; focus ((intro w hSw; (try dsimp only at hSw); first | (go_simp; done) | (go_simp; with_reducible rfl)); done); (try simp only [Act.put, List.setIfInBounds_toArray, List.set_cons_zero, List.set_cons_succ])))
          (try simp only [Act.put, List.setIfInBounds_toArray, List.set_cons_zero, List.set_cons_succ])
          (first | (refine take_held (i := 2) (d := (some 25)) (v := ?_) rfl rfl (by kernel_rfl) (by kernel_rfl) (by kernel_rfl) (fun _ _ _ h => h) (Or.inl ⟨by rfl, ?_⟩) (by assumption) ?_; rotate_left 1; focus ((intro w hSw; (try dsimp only at hSw); first | (go_simp; done) | (go_simp; with_reducible rfl)); done); (try simp only [Act.put, List.setIfInBounds_toArray, List.set_cons_zero, List.set_cons_succ])))
          (try simp only [Act.put, List.setIfInBounds_toArray, List.set_cons_zero, List.set_cons_succ])
          (first | (refine take_held (i := 3) (d := (some 26)) (v := ?_) rfl rfl (by kernel_rfl) (by kernel_rfl) (by kernel_rfl) (fun _ _ _ h => h) (Or.inl ⟨by rfl, ?_⟩) (by assumption) ?_; rotate_left 1; focus ((intro w hSw; (try dsimp only at hSw); first | (go_simp; done) | (go_simp; with_reducible rfl)); done); (try simp only [Act.put, List.setIfInBounds_toArray, List.set_cons_zero, List.set_cons_succ])))
          (try simp only [Act.put, List.setIfInBounds_toArray, List.set_cons_zero, List.set_cons_succ])
          (first | (refine take_held (i := 4) (d := (some 27)) (v := ?_) rfl rfl (by kernel_rfl) (by kernel_rfl) (by kernel_rfl) (fun _ _ _ h => h) (Or.inl ⟨by rfl, ?_⟩) (by assumption) ?_; rotate_left 1; focus ((intro w hSw; (try dsimp only at hSw); first | (go_simp; done) | (go_simp; with_reducible rfl)); done); (try simp only [Act.put, List.setIfInBounds_toArray, List.set_cons_zero, List.set_cons_succ])))
          (try simp only [Act.put, List.setIfInBounds_toArray, List.set_cons_zero, List.set_cons_succ])
          (first | (refine take_held (i := 5) (d := (some 28)) (v := ?_) rfl rfl (by kernel_rfl) (by kernel_rfl) (by kernel_rfl) (fun _ _ _ h => h) (Or.inl ⟨by rfl, ?_⟩) (by assumption) ?_; rotate_left 1; focus ((intro w hSw; (try dsimp only at hSw); first | (go_simp; done) | (go_simp; with_reducible rfl)); done); (try simp only [Act.put, List.setIfInBounds_toArray, List.set_cons_zero, List.set_cons_succ])))
          (try simp only [Act.put, List.setIfInBounds_toArray, List.set_cons_zero, List.set_cons_succ])
          (first | (refine take_held (i := 6) (d := (some 29)) (v := ?_) rfl rfl (by kernel_rfl) (by kernel_rfl) (by kernel_rfl) (fun _ _ _ h => h) (Or.inl ⟨by rfl, ?_⟩) (by assumption) ?_; rotate_left 1; focus ((intro w hSw; (try dsimp only at hSw); first | (go_simp; done) | (go_simp; with_reducible rfl)); done); (try simp only [Act.put, List.setIfInBounds_toArray, List.set_cons_zero, List.set_cons_succ])))
          (try simp only [Act.put, List.setIfInBounds_toArray, List.set_cons_zero, List.set_cons_succ])
          (first | (refine take_held (i := 7) (d := (some 30)) (v := ?_) rfl rfl (by kernel_rfl) (by kernel_rfl) (by kernel_rfl) (fun _ _ _ h => h) (Or.inl ⟨by rfl, ?_⟩) (by assumption) ?_; rotate_left 1; focus ((intro w hSw; (try dsimp only at hSw); first | (go_simp; done) | (go_simp; with_reducible rfl)); done); (try simp only [Act.put, List.setIfInBounds_toArray, List.set_cons_zero, List.set_cons_succ])))
          (try simp only [Act.put, List.setIfInBounds_toArray, List.set_cons_zero, List.set_cons_succ])
          (first | (refine take_held (i := 8) (d := (some 31)) (v := ?_) rfl rfl (by kernel_rfl) (by kernel_rfl) (by kernel_rfl) (fun _ _ _ h => h) (Or.inl ⟨by rfl, ?_⟩) (by assumption) ?_; rotate_left 1; focus ((intro w hSw; (try dsimp only at hSw); first | (go_simp; done) | (go_simp; with_reducible rfl)); done); (try simp only [Act.put, List.setIfInBounds_toArray, List.set_cons_zero, List.set_cons_succ])))
          (try simp only [Act.put, List.setIfInBounds_toArray, List.set_cons_zero, List.set_cons_succ])
          (first | (refine take_held (i := 9) (d := (some 32)) (v := ?_) rfl rfl (by kernel_rfl) (by kernel_rfl) (by kernel_rfl) (fun _ _ _ h => h) (Or.inl ⟨by rfl, ?_⟩) (by assumption) ?_; rotate_left 1; focus ((intro w hSw; (try dsimp only at hSw); first | (go_simp; done) | (go_simp; with_reducible rfl)); done); (try simp only [Act.put, List.setIfInBounds_toArray, List.set_cons_zero, List.set_cons_succ])))
          (try simp only [Act.put, List.setIfInBounds_toArray, List.set_cons_zero, List.set_cons_succ])
          (first | (refine take_held (i := 10) (d := (some 33)) (v := ?_) rfl rfl (by kernel_rfl) (by kernel_rfl) (by kernel_rfl) (fun _ _ _ h => h) (Or.inl ⟨by rfl, ?_⟩) (by assumption) ?_; rotate_left 1; focus ((intro w hSw; (try dsimp only at hSw); first | (go_simp; done) | (go_simp; with_reducible rfl)); done); (try simp only [Act.put, List.setIfInBounds_toArray, List.set_cons_zero, List.set_cons_succ])))
          (try simp only [Act.put, List.setIfInBounds_toArray, List.set_cons_zero, List.set_cons_succ])
          (first | (refine take_held (i := 11) (d := (some 34)) (v := ?_) rfl rfl (by kernel_rfl) (by kernel_rfl) (by kernel_rfl) (fun _ _ _ h => h) (Or.inl ⟨by rfl, ?_⟩) (by assumption) ?_; rotate_left 1; focus ((intro w hSw; (try dsimp only at hSw); first | (go_simp; done) | (go_simp; with_reducible rfl)); done); (try simp only [Act.put, List.setIfInBounds_toArray, List.set_cons_zero, List.set_cons_succ])))
          (try simp only [Act.put, List.setIfInBounds_toArray, List.set_cons_zero, List.set_cons_succ])
          (first | (refine take_held (i := 12) (d := (some 35)) (v := ?_) rfl rfl (by kernel_rfl) (by kernel_rfl) (by kernel_rfl) (fun _ _ _ h => h) (Or.inl ⟨by rfl, ?_⟩) (by assumption) ?_; rotate_left 1; focus ((intro w hSw; (try dsimp only at hSw); first | (go_simp; done) | (go_simp; with_reducible rfl)); done); (try simp only [Act.put, List.setIfInBounds_toArray, List.set_cons_zero, List.set_cons_succ])) | (refine take_held (i := 12) (d := (some 35)) (v := undef) rfl rfl (by kernel_rfl) (by kernel_rfl) (by kernel_rfl) (fun _ _ _ h => h) (Or.inr ⟨by rfl, rfl⟩) (by assumption) ?_; (try simp only [Act.put, List.setIfInBounds_toArray, List.set_cons_zero, List.set_cons_succ])))
          (try simp only [Act.put, List.setIfInBounds_toArray, List.set_cons_zero, List.set_cons_succ])
          (first | (refine take_held (i := 13) (d := (some 36)) (v := ?_) rfl rfl (by kernel_rfl) (by kernel_rfl) (by kernel_rfl) (fun _ _ _ h => h) (Or.inl ⟨by rfl, ?_⟩) (by assumption) ?_; rotate_left 1; focus ((intro w hSw; (try dsimp only at hSw); first | (go_simp; done) | (go_simp; with_reducible rfl)); done); (try simp only [Act.put, List.setIfInBounds_toArray, List.set_cons_zero, List.set_cons_succ])) | (refine take_held (i := 13) (d := (some 36)) (v := undef) rfl rfl (by kernel_rfl) (by kernel_rfl) (by kernel_rfl) (fun _ _ _ h => h) (Or.inr ⟨by rfl, rfl⟩) (by assumption) ?_; (try simp only [Act.put, List.setIfInBounds_toArray, List.set_cons_zero, List.set_cons_succ])))
          (try simp only [Act.put, List.setIfInBounds_toArray, List.set_cons_zero, List.set_cons_succ])
          (first | (refine take_held (i := 14) (d := (some 37)) (v := ?_) rfl rfl (by kernel_rfl) (by kernel_rfl) (by kernel_rfl) (fun _ _ _ h => h) (Or.inl ⟨by rfl, ?_⟩) (by assumption) ?_; rotate_left 1; focus ((intro w hSw; (try dsimp only at hSw); first | (go_simp; done) | (go_simp; with_reducible rfl)); done); (try simp only [Act.put, List.setIfInBounds_toArray, List.set_cons_zero, List.set_cons_succ])) | (refine take_held (i := 14) (d := (some 37)) (v := undef) rfl rfl (by kernel_rfl) (by kernel_rfl) (by kernel_rfl) (fun _ _ _ h => h) (Or.inr ⟨by rfl, rfl⟩) (by assumption) ?_; (try simp only [Act.put, List.setIfInBounds_toArray, List.set_cons_zero, List.set_cons_succ])))
          (try simp only [Act.put, List.setIfInBounds_toArray, List.set_cons_zero, List.set_cons_succ])
          (first | (refine take_held (i := 15) (d := (some 38)) (v := ?_) rfl rfl (by kernel_rfl) (by kernel_rfl) (by kernel_rfl) (fun _ _ _ h => h) (Or.inl ⟨by rfl, ?_⟩) (by assumption) ?_; rotate_left 1; focus ((intro w hSw; (try dsimp only at hSw); first | (go_simp; done) | (go_simp; with_reducible rfl)); done); (try simp only [Act.put, List.setIfInBounds_toArray, List.set_cons_zero, List.set_cons_succ])) | (refine take_held (i := 15) (d := (some 38)) (v := undef) rfl rfl (by kernel_rfl) (by kernel_rfl) (by kernel_rfl) (fun _ _ _ h => h) (Or.inr ⟨by rfl, rfl⟩) (by assumption) ?_; (try simp only [Act.put, List.setIfInBounds_toArray, List.set_cons_zero, List.set_cons_succ])))
          (try simp only [Act.put, List.setIfInBounds_toArray, List.set_cons_zero, List.set_cons_succ])
          (first | (refine take_held (i := 16) (d := (some 39)) (v := ?_) rfl rfl (by kernel_rfl) (by kernel_rfl) (by kernel_rfl) (fun _ _ _ h => h) (Or.inl ⟨by rfl, ?_⟩) (by assumption) ?_; rotate_left 1; focus ((intro w hSw; (try dsimp only at hSw); first | (go_simp; done) | (go_simp; with_reducible rfl)); done); (try simp only [Act.put, List.setIfInBounds_toArray, List.set_cons_zero, List.set_cons_succ])) | (refine take_held (i := 16) (d := (some 39)) (v := undef) rfl rfl (by kernel_rfl) (by kernel_rfl) (by kernel_rfl) (fun _ _ _ h => h) (Or.inr ⟨by rfl, rfl⟩) (by assumption) ?_; (try simp only [Act.put, List.setIfInBounds_toArray, List.set_cons_zero, List.set_cons_succ])))
          (try simp only [Act.put, List.setIfInBounds_toArray, List.set_cons_zero, List.set_cons_succ])
          (first | (refine take_held (i := 17) (d := (some 40)) (v := ?_) rfl rfl (by kernel_rfl) (by kernel_rfl) (by kernel_rfl) (fun _ _ _ h => h) (Or.inl ⟨by rfl, ?_⟩) (by assumption) ?_; rotate_left 1; focus ((intro w hSw; (try dsimp only at hSw); first | (go_simp; done) | (go_simp; with_reducible rfl)); done); (try simp only [Act.put, List.setIfInBounds_toArray, List.set_cons_zero, List.set_cons_succ])) | (refine take_held (i := 17) (d := (some 40)) (v := undef) rfl rfl (by kernel_rfl) (by kernel_rfl) (by kernel_rfl) (fun _ _ _ h => h) (Or.inr ⟨by rfl, rfl⟩) (by assumption) ?_; (try simp only [Act.put, List.setIfInBounds_toArray, List.set_cons_zero, List.set_cons_succ])))
          (try simp only [Act.put, List.setIfInBounds_toArray, List.set_cons_zero, List.set_cons_succ])
          (first | (refine take_held (i := 18) (d := (some 41)) (v := ?_) rfl rfl (by kernel_rfl) (by kernel_rfl) (by kernel_rfl) (fun _ _ _ h => h) (Or.inl ⟨by rfl, ?_⟩) (by assumption) ?_; rotate_left 1; focus ((intro w hSw; (try dsimp only at hSw); first | (go_simp; done) | (go_simp; with_reducible rfl)); done); (try simp only [Act.put, List.setIfInBounds_toArray, List.set_cons_zero, List.set_cons_succ])) | (refine take_held (i := 18) (d := (some 41)) (v := undef) rfl rfl (by kernel_rfl) (by kernel_rfl) (by kernel_rfl) (fun _ _ _ h => h) (Or.inr ⟨by rfl, rfl⟩) (by assumption) ?_; (try simp only [Act.put, List.setIfInBounds_toArray, List.set_cons_zero, List.set_cons_succ])))
          (try simp only [Act.put, List.setIfInBounds_toArray, List.set_cons_zero, List.set_cons_succ])
          (first | (refine take_held (i := 19) (d := (some 42)) (v := ?_) rfl rfl (by kernel_rfl) (by kernel_rfl) (by kernel_rfl) (fun _ _ _ h => h) (Or.inl ⟨by rfl, ?_⟩) (by assumption) ?_; rotate_left 1; focus ((intro w hSw; (try dsimp only at hSw); first | (go_simp; done) | (go_simp; with_reducible rfl)); done); (try simp only [Act.put, List.setIfInBounds_toArray, List.set_cons_zero, List.set_cons_succ])) | (refine take_held (i := 19) (d := (some 42)) (v := undef) rfl rfl (by kernel_rfl) (by kernel_rfl) (by kernel_rfl) (fun _ _ _ h => h) (Or.inr ⟨by rfl, rfl⟩) (by assumption) ?_; (try simp only [Act.put, List.setIfInBounds_toArray, List.set_cons_zero, List.set_cons_succ])))
          (try simp only [Act.put, List.setIfInBounds_toArray, List.set_cons_zero, List.set_cons_succ])
          (first | (refine take_held (i := 20) (d := (some 43)) (v := ?_) rfl rfl (by kernel_rfl) (by kernel_rfl) (by kernel_rfl) (fun _ _ _ h => h) (Or.inl ⟨by rfl, ?_⟩) (by assumption) ?_; rotate_left 1; focus ((intro w hSw; (try dsimp only at hSw); first | (go_simp; done) | (go_simp; with_reducible rfl)); done); (try simp only [Act.put, List.setIfInBounds_toArray, List.set_cons_zero, List.set_cons_succ])) | (refine take_held (i := 20) (d := (some 43)) (v := undef) rfl rfl (by kernel_rfl) (by kernel_rfl) (by kernel_rfl) (fun _ _ _ h => h) (Or.inr ⟨by rfl, rfl⟩) (by assumption) ?_; (try simp only [Act.put, List.setIfInBounds_toArray, List.set_cons_zero, List.set_cons_succ])))
          (try simp only [Act.put, List.setIfInBounds_toArray, List.set_cons_zero, List.set_cons_succ])
          (first | (refine take_held (i := 21) (d := (some 44)) (v := ?_) rfl rfl (by kernel_rfl) (by kernel_rfl) (by kernel_rfl) (fun _ _ _ h => h) (Or.inl ⟨by rfl, ?_⟩) (by assumption) ?_; rotate_left 1; focus ((intro w hSw; (try dsimp only at hSw); first | (go_simp; done) | (go_simp; with_reducible rfl)); done); (try simp only [Act.put, List.setIfInBounds_toArray, List.set_cons_zero, List.set_cons_succ])) | (refine take_held (i := 21) (d := (some 44)) (v := undef) rfl rfl (by kernel_rfl) (by kernel_rfl) (by kernel_rfl) (fun _ _ _ h => h) (Or.inr ⟨by rfl, rfl⟩) (by assumption) ?_; (try simp only [Act.put, List.setIfInBounds_toArray, List.set_cons_zero, List.set_cons_succ])))
          (try simp only [Act.put, List.setIfInBounds_toArray, List.set_cons_zero, List.set_cons_succ])
          (first
            | (refine take_held (i := 22) (d := (some 45)) (v := undef) rfl rfl (by kernel_rfl) (by kernel_rfl) (by kernel_rfl) (fun _ _ _ h => h) (Or.inr ⟨by rfl, rfl⟩) (by assumption) ?_; (try simp only [Act.put, List.setIfInBounds_toArray, List.set_cons_zero, List.set_cons_succ]))
            | (refine wpAnyH_ready (rs := [22]) (by kernel_rfl) (by simp) ?_; refine AllReadyH.cons (o := _) rfl (fun K hK => ?_) AllReadyH.nil; go_simp; (go_at_call 17; refine (saysT l[i].f1 (HS.out _ (List.getElem_mem hi)) _ _ _ _ _ _ _ _ _ wr.drew (fx.below (Below.refl _ _).drew) (fy.below (Below.refl _ _).drew)).mono ?_; rintro e_ wA ⟨b, rfl, hbi, hbA⟩; have hbW := hbA); (try go_wp2_with fail); refine hK.out _ _ (by (try dsimp only); (refine and_of (fun hB_ => ⟨cell_up hB_ x0, cell_up hB_ x1, cell_up hB_ x2, cell_up hB_ x3, cell_up hB_ x4, cell_up hB_ x5, cell_up hB_ y0, cell_up hB_ y1, cell_up hB_ y2, cell_up hB_ y3, cell_up hB_ y4, cell_up hB_ y5⟩) ?_; first | (with_reducible exact (Below.refl _ _).drew) | (with_reducible exact below_call' (And.left (by assumption)) (by assumption)) | (with_reducible exact And.left (by assumption)))) ?_; clear hHeld hK K; intro hHeld; (try simp only [Act.put, List.setIfInBounds_toArray, List.set_cons_zero, List.set_cons_succ])))
          (first | (refine take_held (i := 23) (d := (some 46)) (v := ?_) rfl rfl (by kernel_rfl) (by kernel_rfl) (by kernel_rfl) (fun _ _ _ h => h) (Or.inl ⟨by rfl, ?_⟩) (by assumption) ?_; rotate_left 1; focus ((intro w hSw; (try dsimp only at hSw); first | (go_simp; done) | (go_simp; with_reducible rfl)); done); (try simp only [Act.put, List.setIfInBounds_toArray, List.set_cons_zero, List.set_cons_succ])) | (refine take_held (i := 23) (d := (some 46)) (v := undef) rfl rfl (by kernel_rfl) (by kernel_rfl) (by kernel_rfl) (fun _ _ _ h => h) (Or.inr ⟨by rfl, rfl⟩) (by assumption) ?_; (try simp only [Act.put, List.setIfInBounds_toArray, List.set_cons_zero, List.set_cons_succ])))
          (try simp only [Act.put, List.setIfInBounds_toArray, List.set_cons_zero, List.set_cons_succ])
          (first | (refine take_held (i := 24) (d := (some 47)) (v := ?_) rfl rfl (by kernel_rfl) (by kernel_rfl) (by kernel_rfl) (fun _ _ _ h => h) (Or.inl ⟨by rfl, ?_⟩) (by assumption) ?_; rotate_left 1; focus ((intro w hSw; (try dsimp only at hSw); first | (go_simp; done) | (go_simp; with_reducible rfl)); done); (try simp only [Act.put, List.setIfInBounds_toArray, List.set_cons_zero, List.set_cons_succ])))
          (try simp only [Act.put, List.setIfInBounds_toArray, List.set_cons_zero, List.set_cons_succ])
          (try simp only [Act.put, List.setIfInBounds_toArray, List.set_cons_zero, List.set_cons_succ])
          refine wpAnyH_done (by kernel_rfl) ?_ _
          have hbR := And.left hHeld
          clear hHeld
          have br2 := chain br hbR
          clear x0 x1 x2 x3 x4 x5 y0 y1 y2 y3 y4 y5 fx fy br hbR
          go_wp2
          go_ret
          exact SmOut.no (fun h => HE0.out (by subst h; rfl)) br2
      · have cn : decide ((i : Int) < (l.length : Int)) = false := decide_eq_false (by omega)
        have HT := Aside0.mk ht
        have HI := Aside0.mk hi
        have br2 := br
        clear ht br
        go_wp2
        go_ret
        exact SmOut.yes (take_all HLM.out HI.out HT.out) br2
  · have c0 : ((l.length : Int) != (m.length : Int)) = true := ne_yes (by omega)
    have HLM := Aside0.mk hlm
    clear hlm
    go_enter Try.func72, Try.ntmps72
    go_wp2
    go_ret
    exact SmOut.no (fun h => HLM.out (by rw [h])) (Below.refl _ _)
abbrev Sg := S28
abbrev sgcells (x : Sg) (A1 : Option Addr) (c1 : Nat) (A2 : Option Addr) (c2 : Nat) (A3 : Option Addr) (c3 : Nat) (A4 : Option Addr) (c4 : Nat) : Array Value := #[.string x.f0, .slice A1 x.f1.length c1, .slice A2 x.f2.length c2, .int .i64 x.f3.f0, .int .i64 x.f3.f1, .string x.f3.f2, .slice A3 x.f3.f3.length c3, .slice A4 x.f3.f4.length c4]
abbrev sgv (x : Sg) (A1 : Option Addr) (c1 : Nat) (A2 : Option Addr) (c2 : Nat) (A3 : Option Addr) (c3 : Nat) (A4 : Option Addr) (c4 : Nat) : Value := .agg #[.string x.f0, .slice A1 x.f1.length c1, .slice A2 x.f2.length c2, .int .i64 x.f3.f0, .int .i64 x.f3.f1, .string x.f3.f2, .slice A3 x.f3.f3.length c3, .slice A4 x.f3.f4.length c4]
def RS (w : World) (x : Sg) (A1 : Option Addr) (c1 : Nat) (A2 : Option Addr) (c2 : Nat) (A3 : Option Addr) (c3 : Nat) (A4 : Option Addr) (c4 : Nat) : Prop := (x.f1.length ≤ c1 ∧ kBi.C w A1 x.f1.length x.f1) ∧ (x.f2.length ≤ c2 ∧ kBi.C w A2 x.f2.length x.f2) ∧ RT w x.f3 A3 c3 A4 c4
theorem RS.below {w w1 : World} {x : Sg} {A1 A2 A3 A4 : Option Addr} {c1 c2 c3 c4 : Nat} (h : RS w x A1 c1 A2 c2 A3 c3 A4 c4) (hb : Below w.heap.size w w1) : RS w1 x A1 c1 A2 c2 A3 c3 A4 c4 := ⟨⟨h.1.1, Kd.C_below h.1.2 hb⟩, ⟨h.2.1.1, Kd.C_below h.2.1.2 hb⟩, h.2.2.below hb⟩
def OkS (x : Sg) : Prop := (x.f1.length * 96 ≤ 140737488351232 ∧ ∀ y, y ∈ x.f1 → Okt y.f1) ∧ (x.f2.length * 96 ≤ 140737488351232 ∧ ∀ y, y ∈ x.f2 → Okt y.f1) ∧ Okt x.f3
theorem eight {w : World} {g : Nat} {v0 v1 v2 v3 v4 v5 v6 v7 : Value} {t : TypeId} (h : w.heap[g]? = some (.cells #[v0, v1, v2, v3, v4, v5, v6, v7] t (0, 0))) :
    w.cell? ⟨g, 0, none⟩ = some v0 ∧ w.cell? ⟨g, 1, none⟩ = some v1 ∧ w.cell? ⟨g, 2, none⟩ = some v2 ∧ w.cell? ⟨g, 3, none⟩ = some v3 ∧ w.cell? ⟨g, 4, none⟩ = some v4 ∧ w.cell? ⟨g, 5, none⟩ = some v5 ∧ w.cell? ⟨g, 6, none⟩ = some v6 ∧ w.cell? ⟨g, 7, none⟩ = some v7 ∧ g < w.heap.size :=
  ⟨(blk_cell h 0).trans rfl, (blk_cell h 1).trans rfl, (blk_cell h 2).trans rfl, (blk_cell h 3).trans rfl, (blk_cell h 4).trans rfl, (blk_cell h 5).trans rfl, (blk_cell h 6).trans rfl, (blk_cell h 7).trans rfl, blk_lt h⟩
theorem same_of4 {x y : Sg} (h0 : x.f0 = y.f0) (h1 : x.f1 = y.f1) (h2 : x.f2 = y.f2) (h3 : x.f3 = y.f3) : x = y := by
  cases x; cases y; simp_all
set_option maxHeartbeats 4000000 in
set_option maxRecDepth 100000 in
theorem sig_s (x y : Sg) (ho : OkS x) {A1 A2 A3 A4 B1 B2 B3 B4 : Option Addr} {c1 c2 c3 c4 d1 d2 d3 d4 : Nat} {w : World} (hA : RS w x A1 c1 A2 c2 A3 c3 A4 c4) (hB : RS w y B1 d1 B2 d2 B3 d3 B4 d4) :
    Calls Try.prog 51 #[sgv x A1 c1 A2 c2 A3 c3 A4 c4, sgv y B1 d1 B2 d2 B3 d3 B4 d4] w (SmOut (x = y) w) := by
  obtain ⟨kP, kQ, b0, z0⟩ := twoA w (sgcells x A1 c1 A2 c2 A3 c3 A4 c4) (sgcells y B1 d1 B2 d2 B3 d3 B4 d4) 28 28
  obtain ⟨p0, p1, p2, p3, p4, p5, p6, p7, lp⟩ := eight kP
  obtain ⟨q0, q1, q2, q3, q4, q5, q6, q7, lq⟩ := eight kQ
  replace hA := hA.below b0
  replace hB := hB.below b0
  have HO := Aside0.mk ho
  have HA := Aside0.mk hA
  have HB := Aside0.mk hB
  have b1 := Aside0.mk b0
  clear kP kQ ho b0 z0 hA hB
  by_cases df0 : x.f0 = y.f0
  case neg =>
    have ef0 := text_ne df0
    have Df0 := Aside0.mk df0
    clear df0
    go_enter Try.func51, Try.ntmps51
    go_wp2
    go_ret
    exact SmOut.no (fun h => Df0.out (by rw [h])) b1.out
  have ef0 := text_eq df0
  have Df0 := Aside0.mk df0
  clear df0
  go_enter Try.func51, Try.ntmps51
  go_wp2_with fail
  refine (binds_s x.f1 y.f1 HO.out.1.2 (by have := HO.out.1.1; omega) HA.out.1.2 HB.out.1.2).mono ?_
  rintro e_ w1 ⟨b, rfl, hbi, hb⟩
  replace p0 := cell_up hb p0
  replace p1 := cell_up hb p1
  replace p2 := cell_up hb p2
  replace p3 := cell_up hb p3
  replace p4 := cell_up hb p4
  replace p5 := cell_up hb p5
  replace p6 := cell_up hb p6
  replace p7 := cell_up hb p7
  replace q0 := cell_up hb q0
  replace q1 := cell_up hb q1
  replace q2 := cell_up hb q2
  replace q3 := cell_up hb q3
  replace q4 := cell_up hb q4
  replace q5 := cell_up hb q5
  replace q6 := cell_up hb q6
  replace q7 := cell_up hb q7
  have HA1 := Aside0.mk (HA.out.below hb)
  have HB1 := Aside0.mk (HB.out.below hb)
  have b2 := Aside0.mk (chain b1.out hb)
  replace lp := Nat.lt_of_lt_of_le lp hb.size
  replace lq := Nat.lt_of_lt_of_le lq hb.size
  have HBI0 := Aside0.mk hbi
  clear hbi hb
  cases b
  case false =>
    go_wp2
    go_ret
    exact SmOut.no (fun h => by have := HBI0.out.2 (by rw [h]); cases this) b2.out
  have E0 := Aside0.mk (HBI0.out.1 rfl)
  go_wp2_with fail
  refine (binds_s x.f2 y.f2 HO.out.2.1.2 (by have := HO.out.2.1.1; omega) HA1.out.2.1.2 HB1.out.2.1.2).mono ?_
  rintro e_ w2 ⟨b, rfl, hbi, hb⟩
  replace p0 := cell_up hb p0
  replace p1 := cell_up hb p1
  replace p2 := cell_up hb p2
  replace p3 := cell_up hb p3
  replace p4 := cell_up hb p4
  replace p5 := cell_up hb p5
  replace p6 := cell_up hb p6
  replace p7 := cell_up hb p7
  replace q0 := cell_up hb q0
  replace q1 := cell_up hb q1
  replace q2 := cell_up hb q2
  replace q3 := cell_up hb q3
  replace q4 := cell_up hb q4
  replace q5 := cell_up hb q5
  replace q6 := cell_up hb q6
  replace q7 := cell_up hb q7
  have HA2 := Aside0.mk (HA1.out.below hb)
  have HB2 := Aside0.mk (HB1.out.below hb)
  have b3 := Aside0.mk (chain b2.out hb)
  replace lp := Nat.lt_of_lt_of_le lp hb.size
  replace lq := Nat.lt_of_lt_of_le lq hb.size
  have HBI1 := Aside0.mk hbi
  clear hbi hb
  cases b
  case false =>
    go_wp2
    go_ret
    exact SmOut.no (fun h => by have := HBI1.out.2 (by rw [h]); cases this) b3.out
  have E1 := Aside0.mk (HBI1.out.1 rfl)
  go_wp2_with fail
  refine (saysT x.f3 HO.out.2.2 y.f3 _ _ _ _ _ _ _ _ _ HA2.out.2.2 HB2.out.2.2).mono ?_
  rintro e_ w3 ⟨b, rfl, hbi, hb⟩
  replace p0 := cell_up hb p0
  replace p1 := cell_up hb p1
  replace p2 := cell_up hb p2
  replace p3 := cell_up hb p3
  replace p4 := cell_up hb p4
  replace p5 := cell_up hb p5
  replace p6 := cell_up hb p6
  replace p7 := cell_up hb p7
  replace q0 := cell_up hb q0
  replace q1 := cell_up hb q1
  replace q2 := cell_up hb q2
  replace q3 := cell_up hb q3
  replace q4 := cell_up hb q4
  replace q5 := cell_up hb q5
  replace q6 := cell_up hb q6
  replace q7 := cell_up hb q7
  have HA3 := Aside0.mk (HA2.out.below hb)
  have HB3 := Aside0.mk (HB2.out.below hb)
  have b4 := Aside0.mk (chain b3.out hb)
  replace lp := Nat.lt_of_lt_of_le lp hb.size
  replace lq := Nat.lt_of_lt_of_le lq hb.size
  have HBI2 := Aside0.mk hbi
  clear hbi hb
  cases b
  case false =>
    go_wp2
    go_ret
    exact SmOut.no (fun h => by have := HBI2.out.2 (by rw [h]); cases this) b4.out
  have E2 := Aside0.mk (HBI2.out.1 rfl)
  go_wp2
  go_ret
  exact SmOut.yes (same_of4 Df0.out E0.out E1.out E2.out) b4.out
def RD (w : World) (x : De) (A1 : Option Addr) (c1 : Nat) (A2 : Option Addr) (c2 : Nat) (A3 : Option Addr) (c3 : Nat) (A4 : Option Addr) (c4 : Nat) (K4 : Option Addr) (k4 : Nat) (K5 : Option Addr) (k5 : Nat) (K6 : Option Addr) (k6 : Nat) : Prop := RS w x.f0 A1 c1 A2 c2 A3 c3 A4 c4 ∧ RE w x.f1 K4 k4 K5 k5 K6 k6
theorem RD.below {w w1 : World} {x : De} {A1 A2 A3 A4 K4 K5 K6 : Option Addr} {c1 c2 c3 c4 k4 k5 k6 : Nat} (h : RD w x A1 c1 A2 c2 A3 c3 A4 c4 K4 k4 K5 k5 K6 k6) (hb : Below w.heap.size w w1) : RD w1 x A1 c1 A2 c2 A3 c3 A4 c4 K4 k4 K5 k5 K6 k6 := ⟨h.1.below hb, h.2.below hb⟩
theorem FD.rd {w : World} {ok : Nat → Prop} {x : De} {A1 A2 A3 A4 K4 K5 K6 : Option Addr} {c1 c2 c3 c4 k4 k5 k6 : Nat} (h : FD w ok x A1 c1 A2 c2 A3 c3 A4 c4 K4 k4 K5 k5 K6 k6) : RD w x A1 c1 A2 c2 A3 c3 A4 c4 K4 k4 K5 k5 K6 k6 := ⟨⟨⟨h.1.1, Kd.F_now h.1.2⟩, ⟨h.2.1.1, Kd.F_now h.2.1.2⟩, h.2.2.1.rt⟩, h.2.2.2.re⟩
theorem RD.fd {w : World} {x : De} {A1 A2 A3 A4 K4 K5 K6 : Option Addr} {c1 c2 c3 c4 k4 k5 k6 : Nat} (h : RD w x A1 c1 A2 c2 A3 c3 A4 c4 K4 k4 K5 k5 K6 k6) : FD w (fun b => b < w.heap.size) x A1 c1 A2 c2 A3 c3 A4 c4 K4 k4 K5 k5 K6 k6 := ⟨⟨h.1.1.1, Kd.C_F heapBi h.1.1.2⟩, ⟨h.1.2.1.1, Kd.C_F heapBi h.1.2.1.2⟩, h.1.2.2.ft, h.2.fe⟩
theorem same_ofD {x y : De} (h0 : x.f0 = y.f0) (h1 : x.f1 = y.f1) : x = y := by
  cases x; cases y; simp_all
def OkD (x : De) : Prop := OkS x.f0 ∧ Oke x.f1
set_option maxHeartbeats 4000000 in
set_option maxRecDepth 100000 in
theorem def_s (x y : De) (ho : OkD x) {A1 A2 A3 A4 K4 K5 K6 : Option Addr} {c1 c2 c3 c4 k4 k5 k6 : Nat} {B1 B2 B3 B4 L4 L5 L6 : Option Addr} {d1 d2 d3 d4 m4 m5 m6 : Nat} {w : World} (hA : RD w x A1 c1 A2 c2 A3 c3 A4 c4 K4 k4 K5 k5 K6 k6) (hB : RD w y B1 d1 B2 d2 B3 d3 B4 d4 L4 m4 L5 m5 L6 m6) :
    Calls Try.prog 18 #[dv x A1 c1 A2 c2 A3 c3 A4 c4 K4 k4 K5 k5 K6 k6, dv y B1 d1 B2 d2 B3 d3 B4 d4 L4 m4 L5 m5 L6 m6] w (SmOut (x = y) w) := by
  obtain ⟨kP, kQ, b0, z0⟩ := twoA w (dcells x A1 c1 A2 c2 A3 c3 A4 c4 K4 k4 K5 k5 K6 k6) (dcells y B1 d1 B2 d2 B3 d3 B4 d4 L4 m4 L5 m5 L6 m6) 33 33
  obtain ⟨⟨p0, p1, p2, p3, p4, p5, p6, p7, p8, p9, p10, p11, p12, p13, p14⟩, -, lp⟩ := fifteen kP
  obtain ⟨⟨q0, q1, q2, q3, q4, q5, q6, q7, q8, q9, q10, q11, q12, q13, q14⟩, -, lq⟩ := fifteen kQ
  replace hA := hA.below b0
  replace hB := hB.below b0
  have HO := Aside0.mk ho
  have HA := Aside0.mk hA
  have HB := Aside0.mk hB
  have b1 := Aside0.mk b0
  clear kP kQ ho b0 z0 hA hB
  go_enter Try.func18, Try.ntmps18
  go_wp2_with fail
  refine (sig_s x.f0 y.f0 HO.out.1 HA.out.1 HB.out.1).mono ?_
  rintro e_ w1 ⟨b, rfl, hbi, hb⟩
  replace p0 := cell_up hb p0
  replace p1 := cell_up hb p1
  replace p2 := cell_up hb p2
  replace p3 := cell_up hb p3
  replace p4 := cell_up hb p4
  replace p5 := cell_up hb p5
  replace p6 := cell_up hb p6
  replace p7 := cell_up hb p7
  replace p8 := cell_up hb p8
  replace p9 := cell_up hb p9
  replace p10 := cell_up hb p10
  replace p11 := cell_up hb p11
  replace p12 := cell_up hb p12
  replace p13 := cell_up hb p13
  replace p14 := cell_up hb p14
  replace q0 := cell_up hb q0
  replace q1 := cell_up hb q1
  replace q2 := cell_up hb q2
  replace q3 := cell_up hb q3
  replace q4 := cell_up hb q4
  replace q5 := cell_up hb q5
  replace q6 := cell_up hb q6
  replace q7 := cell_up hb q7
  replace q8 := cell_up hb q8
  replace q9 := cell_up hb q9
  replace q10 := cell_up hb q10
  replace q11 := cell_up hb q11
  replace q12 := cell_up hb q12
  replace q13 := cell_up hb q13
  replace q14 := cell_up hb q14
  have HA1 := Aside0.mk (HA.out.below hb)
  have HB1 := Aside0.mk (HB.out.below hb)
  have b2 := Aside0.mk (chain b1.out hb)
  replace lp := Nat.lt_of_lt_of_le lp hb.size
  replace lq := Nat.lt_of_lt_of_le lq hb.size
  have HBI0 := Aside0.mk hbi
  clear hbi hb
  cases b
  case false =>
    go_wp2
    go_ret
    exact SmOut.no (fun h => by have := HBI0.out.2 (by rw [h]); cases this) b2.out
  have E0 := Aside0.mk (HBI0.out.1 rfl)
  go_wp2_with fail
  refine (saysE x.f1 HO.out.2 y.f1 _ _ _ _ _ _ _ _ _ _ _ _ _ HA1.out.2 HB1.out.2).mono ?_
  rintro e_ w2 ⟨b, rfl, hbi, hb⟩
  replace p0 := cell_up hb p0
  replace p1 := cell_up hb p1
  replace p2 := cell_up hb p2
  replace p3 := cell_up hb p3
  replace p4 := cell_up hb p4
  replace p5 := cell_up hb p5
  replace p6 := cell_up hb p6
  replace p7 := cell_up hb p7
  replace p8 := cell_up hb p8
  replace p9 := cell_up hb p9
  replace p10 := cell_up hb p10
  replace p11 := cell_up hb p11
  replace p12 := cell_up hb p12
  replace p13 := cell_up hb p13
  replace p14 := cell_up hb p14
  replace q0 := cell_up hb q0
  replace q1 := cell_up hb q1
  replace q2 := cell_up hb q2
  replace q3 := cell_up hb q3
  replace q4 := cell_up hb q4
  replace q5 := cell_up hb q5
  replace q6 := cell_up hb q6
  replace q7 := cell_up hb q7
  replace q8 := cell_up hb q8
  replace q9 := cell_up hb q9
  replace q10 := cell_up hb q10
  replace q11 := cell_up hb q11
  replace q12 := cell_up hb q12
  replace q13 := cell_up hb q13
  replace q14 := cell_up hb q14
  have HA2 := Aside0.mk (HA1.out.below hb)
  have HB2 := Aside0.mk (HB1.out.below hb)
  have b3 := Aside0.mk (chain b2.out hb)
  replace lp := Nat.lt_of_lt_of_le lp hb.size
  replace lq := Nat.lt_of_lt_of_le lq hb.size
  have HBI1 := Aside0.mk hbi
  clear hbi hb
  cases b
  case false =>
    go_wp2
    go_ret
    exact SmOut.no (fun h => by have := HBI1.out.2 (by rw [h]); cases this) b3.out
  have E1 := Aside0.mk (HBI1.out.1 rfl)
  go_wp2
  go_ret
  exact SmOut.yes (same_ofD E0.out E1.out) b3.out
end Go.Proofs.Ytlenfmnkbepoiaa.PSitesTell

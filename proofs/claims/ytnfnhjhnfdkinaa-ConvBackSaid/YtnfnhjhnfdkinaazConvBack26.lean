/-
  ConvBack: texts of this claim, put together by a program of this session. No conditions beyond what each lemma says.
-/
import Derived.Test.YtnfnhjhnfdkinaazConvBack25
import Derived.Test.YtnfnhjhnfdkinaazConvBack17
import Derived.Test.YtnfnhjhnfdkinaazConvBack18
namespace Go.Proofs.Ytnfnhjhnfdkinaa.PConvBack
open Go.RowKit Go.Proofs.YtnfnhjhnfdkinaaW.Mine Go.Proofs.YtnfnhjhnfdkinaaW.PrintWords Go.Proofs.YtnfnhjhnfdkinaaW.PrintLast Go.Proofs.YtnfnhjhnfdkinaaW.PrintMore
attribute [local go_sem] max2_int min2_int max_two min_two max_three min_three max_four min_four
set_option linter.unusedVariables false
set_option linter.unusedSimpArgs false
def Yes (w : World) (e : Ending) (w' : World) : Prop := e = .returned (.bool true) ∧ Below w.heap.size w w'
/-- Same tells yes of x, wherever it lies twice. -/
def SaysT (x : Ty) : Prop := ∀ (A3 : Option Addr) (c3 : Nat) (A4 : Option Addr) (c4 : Nat) (B3 : Option Addr) (d3 : Nat) (B4 : Option Addr) (d4 : Nat) (w : World), RT w x A3 c3 A4 c4 → RT w x B3 d3 B4 d4 →
  Calls Try.prog 22 #[tv x A3 c3 A4 c4, tv x B3 d3 B4 d4] w (Yes w)
theorem names_c (l : List ByteArray) (hl : l.length ≤ 140737488351232) {A A' : Option Addr} {c c' : Nat} {w : World} (h : Kd.string.C w A l.length l) (hc : l.length ≤ c) (h' : Kd.string.C w A' l.length l) (hc' : l.length ≤ c') :
    Calls Try.prog 60 #[.slice A l.length c, .slice A' l.length c'] w fun e w' => e = .returned (.bool true) ∧ Below w.heap.size w w' := by
  obtain ⟨k, hk⟩ := (labels_f l l hl).rounds
  rw [(texts_iff l l).2 rfl] at hk
  exact (limbeckref01_Same.calls k A c l A' c' l true w h hc h' hc' hk).mono fun e w' k => ⟨k.1, k.2.below⟩
set_option maxHeartbeats 4000000 in
set_option maxRecDepth 100000 in
theorem alls_c (l : List Ty) (hs : ∀ y, y ∈ l → SaysT y) (hl : l.length * 80 ≤ 140737488351232) {A A' : Option Addr} {c c' : Nat} {w : World} (h : kTy.C w A l.length l) (h' : kTy.C w A' l.length l) :
    Calls Try.prog 50 #[.slice A l.length c, .slice A' l.length c'] w (Yes w) := by
  have h1 := Aside0.mk h
  have h2 := Aside0.mk h'
  have HL := Aside0.mk hl
  have HS := Aside0.mk hs
  clear h h' hl hs
  go_enter Try.func50, Try.ntmps50
  go_wp2_with fail
  go_loopg [5] l.length (fun kq v5 w' => ∃ (i : Nat), v5 = .int .i64 i ∧ kq + i = l.length ∧ Below w.heap.size w w')
  case atStart => exact ⟨0, rfl, rfl, Below.refl _ _⟩
  case round =>
    obtain ⟨i, rfl, hk, br⟩ := hrel
    by_cases hi : i < l.length
    · obtain ⟨k1, rfl⟩ : ∃ k1, gk = k1 + 1 := ⟨gk - 1, by omega⟩
      have ci : decide ((i : Int) < (l.length : Int)) = true := decide_eq_true (by omega)
      have i0 : (0 : Int) ≤ (i : Int) := by omega
      have i1 : (i : Int) < (l.length : Int) := by omega
      obtain ⟨ad, X3, e3, X4, e4, eA, fx, x0, x1, x2, x3, x4⟩ := telt h1.out i hi
      obtain ⟨bd, Y3, j3, Y4, j4, eB, fy, y0, y1, y2, y3, y4⟩ := telt h2.out i hi
      subst eA eB
      replace fx := fx.below br
      replace fy := fy.below br
      replace x0 := cell_up br x0
      replace x1 := cell_up br x1
      replace x2 := cell_up br x2
      replace x3 := cell_up br x3
      replace x4 := cell_up br x4
      replace y0 := cell_up br y0
      replace y1 := cell_up br y1
      replace y2 := cell_up br y2
      replace y3 := cell_up br y3
      replace y4 := cell_up br y4
      have HK := Aside0.mk hk
      clear hk
      go_wp2_with fail
      refine with_cont (G := ∀ W, Below wr.heap.size wr W → (?P1 : World → Prop) W) ?cont1 fun hmain => ?reg1
      case reg1 =>
        refine wp_region_held_drew (S := (fun w' => Below wr.heap.size wr w' ∧ w'.cell? (ad.add (i * 5)) = some (.int .i64 l[i].f0) ∧ w'.cell? ⟨(ad.add (i * 5)).block, (ad.add (i * 5)).off + 1, none⟩ = some (.int .i64 l[i].f1) ∧ w'.cell? ⟨(ad.add (i * 5)).block, (ad.add (i * 5)).off + 2, none⟩ = some (.string l[i].f2) ∧ w'.cell? ⟨(ad.add (i * 5)).block, (ad.add (i * 5)).off + 3, none⟩ = some (.slice X3 l[i].f3.length e3) ∧ w'.cell? ⟨(ad.add (i * 5)).block, (ad.add (i * 5)).off + 4, none⟩ = some (.slice X4 l[i].f4.length e4) ∧ w'.cell? (bd.add (i * 5)) = some (.int .i64 l[i].f0) ∧ w'.cell? ⟨(bd.add (i * 5)).block, (bd.add (i * 5)).off + 1, none⟩ = some (.int .i64 l[i].f1) ∧ w'.cell? ⟨(bd.add (i * 5)).block, (bd.add (i * 5)).off + 2, none⟩ = some (.string l[i].f2) ∧ w'.cell? ⟨(bd.add (i * 5)).block, (bd.add (i * 5)).off + 3, none⟩ = some (.slice Y3 l[i].f3.length j3) ∧ w'.cell? ⟨(bd.add (i * 5)).block, (bd.add (i * 5)).off + 4, none⟩ = some (.slice Y4 l[i].f4.length j4))) (by kernel_rfl) ?_ (fun hHeld => ?_)
        · (try dsimp only)
          ((refine and_of (fun hB_ => ⟨cell_up hB_ x0, cell_up hB_ x1, cell_up hB_ x2, cell_up hB_ x3, cell_up hB_ x4, cell_up hB_ y0, cell_up hB_ y1, cell_up hB_ y2, cell_up hB_ y3, cell_up hB_ y4⟩) ?_; first | (with_reducible exact (Below.refl _ _).drew) | (with_reducible exact below_call' (And.left (by assumption)) (by assumption)) | (with_reducible exact And.left (by assumption))))
        (first | (refine take_held (i := 0) (d := (some 23)) (v := ?_) rfl rfl (by kernel_rfl) (by kernel_rfl) (by kernel_rfl) (fun _ _ _ h => h) (Or.inl ⟨by rfl, ?_⟩) (by assumption) ?_; rotate_left 1; focus ((intro w hSw; (try dsimp only at hSw); first | (go_simp; done) | (go_simp; with_reducible rfl)); done); (try simp only [Act.put, List.setIfInBounds_toArray, List.set_cons_zero, List.set_cons_succ])))
        (try simp only [Act.put, List.setIfInBounds_toArray, List.set_cons_zero, List.set_cons_succ])
        (first | (refine take_held (i := 1) (d := (some 24)) (v := ?_) rfl rfl (by kernel_rfl) (by kernel_rfl) (by kernel_rfl) (fun _ _ _ h => h) (Or.inl ⟨by rfl, ?_⟩) (by assumption) ?_; rotate_left 1; focus ((intro w hSw; (try dsimp only at hSw); first | (go_simp; done) | (go_simp; with_reducible rfl)); done); (try simp only [Act.put, List.setIfInBounds_toArray, List.set_cons_zero, List.set_cons_succ])))
        (try simp only [Act.put, List.setIfInBounds_toArray, List.set_cons_zero, List.set_cons_succ])
        (first | (refine take_held (i := 2) (d := (some 25)) (v := ?_) rfl rfl (by kernel_rfl) (by kernel_rfl) (by kernel_rfl) (fun _ _ _ h => h) (Or.inl ⟨by rfl, ?_⟩) (by assumption) ?_; rotate_left 1; focus ((intro w hSw; (try dsimp only at hSw); first | (go_simp; done) | (go_simp; with_reducible rfl)); done); (try simp only [Act.put, List.setIfInBounds_toArray, List.set_cons_zero, List.set_cons_succ])))
        (try simp only [Act.put, List.setIfInBounds_toArray, List.set_cons_zero, List.set_cons_succ])
        (first | (refine take_held (i := 3) (d := (some 26)) (v := ?_) rfl rfl (by kernel_rfl) (by kernel_rfl) (by kernel_rfl) (fun _ _ _ h => h) (Or.inl ⟨by rfl, ?_⟩) (by assumption) ?_; rotate_left 1; focus ((intro w hSw; (try dsimp only at hSw); first | (go_simp; done) | (go_simp; with_reducible rfl)); done); (try simp only [Act.put, List.setIfInBounds_toArray, List.set_cons_zero, List.set_cons_succ])))
        (try simp only [Act.put, List.setIfInBounds_toArray, List.set_cons_zero, List.set_cons_succ])
        (first | (refine take_held (i := 4) (d := (some 27)) (v := ?_) rfl rfl (by kernel_rfl) (by kernel_rfl) (by kernel_rfl) (fun _ _ _ h => h) (Or.inl ⟨by rfl, ?_⟩) (by assumption) ?_; rotate_left 1; focus ((intro w hSw; (try dsimp only at hSw); first | (go_simp; done) | (go_simp; with_reducible rfl)); done); (try simp only [Act.put, List.setIfInBounds_toArray, List.set_cons_zero, List.set_cons_succ])))
        (try simp only [Act.put, List.setIfInBounds_toArray, List.set_cons_zero, List.set_cons_succ])
        (first | (refine take_held (i := 5) (d := (some 28)) (v := ?_) rfl rfl (by kernel_rfl) (by kernel_rfl) (by kernel_rfl) (fun _ _ _ h => h) (Or.inl ⟨by rfl, ?_⟩) (by assumption) ?_; rotate_left 1; focus ((intro w hSw; (try dsimp only at hSw); first | (go_simp; done) | (go_simp; with_reducible rfl)); done); (try simp only [Act.put, List.setIfInBounds_toArray, List.set_cons_zero, List.set_cons_succ])))
        (try simp only [Act.put, List.setIfInBounds_toArray, List.set_cons_zero, List.set_cons_succ])
        (first | (refine take_held (i := 6) (d := (some 29)) (v := ?_) rfl rfl (by kernel_rfl) (by kernel_rfl) (by kernel_rfl) (fun _ _ _ h => h) (Or.inl ⟨by rfl, ?_⟩) (by assumption) ?_; rotate_left 1; focus ((intro w hSw; (try dsimp only at hSw); first | (go_simp; done) | (go_simp; with_reducible rfl)); done); (try simp only [Act.put, List.setIfInBounds_toArray, List.set_cons_zero, List.set_cons_succ])))
        (try simp only [Act.put, List.setIfInBounds_toArray, List.set_cons_zero, List.set_cons_succ])
        (first | (refine take_held (i := 7) (d := (some 30)) (v := ?_) rfl rfl (by kernel_rfl) (by kernel_rfl) (by kernel_rfl) (fun _ _ _ h => h) (Or.inl ⟨by rfl, ?_⟩) (by assumption) ?_; rotate_left 1; focus ((intro w hSw; (try dsimp only at hSw); first | (go_simp; done) | (go_simp; with_reducible rfl)); done); (try simp only [Act.put, List.setIfInBounds_toArray, List.set_cons_zero, List.set_cons_succ])))
        (try simp only [Act.put, List.setIfInBounds_toArray, List.set_cons_zero, List.set_cons_succ])
        (first
          | (refine wpAnyH_ready (rs := [8]) (by kernel_rfl) (by simp) ?_; refine AllReadyH.cons (o := _) rfl (fun K hK => ?_) AllReadyH.nil; go_simp; (go_at_call 22; refine (HS.out _ (List.getElem_mem hi) _ _ _ _ _ _ _ _ _ (fx.below (And.left (by assumption))) (fy.below (And.left (by assumption)))).mono ?_; rintro e_ wA ⟨rfl, hbA⟩); (try go_wp2_with fail); refine hK.out _ _ (by (try dsimp only); ((refine and_of (fun hB_ => ⟨cell_up hB_ x0, cell_up hB_ x1, cell_up hB_ x2, cell_up hB_ x3, cell_up hB_ x4, cell_up hB_ y0, cell_up hB_ y1, cell_up hB_ y2, cell_up hB_ y3, cell_up hB_ y4⟩) ?_; first | (with_reducible exact (Below.refl _ _).drew) | (with_reducible exact below_call' (And.left (by assumption)) (by assumption)) | (with_reducible exact And.left (by assumption))))) ?_; clear hHeld hK K; intro hHeld; (try simp only [Act.put, List.setIfInBounds_toArray, List.set_cons_zero, List.set_cons_succ])))
        (first | (refine take_held (i := 9) (d := (some 32)) (v := ?_) rfl rfl (by kernel_rfl) (by kernel_rfl) (by kernel_rfl) (fun _ _ _ h => h) (Or.inl ⟨by rfl, ?_⟩) (by assumption) ?_; rotate_left 1; focus ((intro w hSw; (try dsimp only at hSw); first | (go_simp; done) | (go_simp; with_reducible rfl)); done); (try simp only [Act.put, List.setIfInBounds_toArray, List.set_cons_zero, List.set_cons_succ])))
        (try simp only [Act.put, List.setIfInBounds_toArray, List.set_cons_zero, List.set_cons_succ])
        (try simp only [Act.put, List.setIfInBounds_toArray, List.set_cons_zero, List.set_cons_succ])
        refine wpAnyH_done (by kernel_rfl) ?_ _
        have hbR := below_call' (And.left hHeld) (Below.refl _ _)
        exact hmain.out _ hbR
      intro W hb
      have br2 := chain br hb
      clear x0 x1 x2 x3 x4 y0 y1 y2 y3 y4 fx fy br hb
      go_wp2
      go_roundg k1
      case measure => omega
      case rel => exact ⟨i + 1, (by rw [wrap_up (by have := HL.out; omega)]), by have := HK.out; omega, br2⟩
    · have cn : decide ((i : Int) < (l.length : Int)) = false := decide_eq_false (by omega)
      go_wp2
      go_ret
      exact ⟨rfl, br⟩
set_option maxHeartbeats 4000000 in
set_option maxRecDepth 100000 in
theorem typ_c (x : Ty) (ho : Okt x) (hs : ∀ y, y ∈ x.f4 → SaysT y) : SaysT x := by
  intro A3 c3 A4 c4 B3 d3 B4 d4 w hA hB
  obtain ⟨⟨kP, kQ⟩, b0⟩ := twob w (tarr x A3 c3 A4 c4) (tarr x B3 d3 B4 d4) 25 25
  obtain ⟨⟨p0, p1, p2, p3, p4⟩, -, lp⟩ := five kP
  obtain ⟨⟨q0, q1, q2, q3, q4⟩, -, lq⟩ := five kQ
  replace hA := hA.below b0
  replace hB := hB.below b0
  have O3 := Aside0.mk ho.l3
  have HL := Aside0.mk ho.l80
  have HS := Aside0.mk hs
  have B0 := Aside0.mk b0
  clear kP kQ ho hs b0
  go_enter Try.func22, Try.ntmps22
  go_wp2_with fail
  refine (names_c x.f3 O3.out hA.2.1 hA.1 hB.2.1 hB.1).mono ?_
  rintro e w1 ⟨rfl, hb⟩
  have b1 := chain B0.out hb
  replace hA := hA.below hb
  replace hB := hB.below hb
  replace p0 := cell_up hb p0
  replace p1 := cell_up hb p1
  replace p2 := cell_up hb p2
  replace p3 := cell_up hb p3
  replace p4 := cell_up hb p4
  replace q0 := cell_up hb q0
  replace q1 := cell_up hb q1
  replace q2 := cell_up hb q2
  replace q3 := cell_up hb q3
  replace q4 := cell_up hb q4
  clear hb B0
  go_wp2_with fail
  go_loopg [5] x.f4.length (fun kq v5 w' => ∃ (i : Nat), v5 = .int .i64 i ∧ kq + i = x.f4.length ∧ Below w1.heap.size w1 w')
  case atStart => exact ⟨0, rfl, rfl, Below.refl _ _⟩
  case round =>
    obtain ⟨i, rfl, hk, br⟩ := hrel
    have z0 := cell_up br p4
    have z1 := cell_up br q4
    by_cases hi : i < x.f4.length
    · obtain ⟨k1, rfl⟩ : ∃ k1, gk = k1 + 1 := ⟨gk - 1, by omega⟩
      have ci : decide ((i : Int) < (x.f4.length : Int)) = true := decide_eq_true (by omega)
      have i0 : (0 : Int) ≤ (i : Int) := by omega
      have i1 : (i : Int) < (x.f4.length : Int) := by omega
      obtain ⟨ad, X3, e3, X4, e4, eA, fx, x0, x1, x2, x3, x4⟩ := telt hA.2.2.2 i hi
      obtain ⟨bd, Y3, j3, Y4, j4, eB, fy, y0, y1, y2, y3, y4⟩ := telt hB.2.2.2 i hi
      subst eA eB
      replace fx := fx.below br
      replace fy := fy.below br
      replace x0 := cell_up br x0
      replace x1 := cell_up br x1
      replace x2 := cell_up br x2
      replace x3 := cell_up br x3
      replace x4 := cell_up br x4
      replace y0 := cell_up br y0
      replace y1 := cell_up br y1
      replace y2 := cell_up br y2
      replace y3 := cell_up br y3
      replace y4 := cell_up br y4
      have HK := Aside0.mk hk
      clear hk hA hB p0 p1 p2 p3 p4 q0 q1 q2 q3 q4 lp lq
      go_wp2_with fail
      refine with_cont (G := ∀ W, Below wr.heap.size wr W → (?P1 : World → Prop) W) ?cont1 fun hmain => ?reg1
      case reg1 =>
        refine wp_region_held_drew (S := (fun w' => Below wr.heap.size wr w' ∧ w'.cell? ⟨w.heap.size, 4, none⟩ = some (.slice (some ad) x.f4.length c4) ∧ w'.cell? ⟨w.heap.size + 1, 4, none⟩ = some (.slice (some bd) x.f4.length d4) ∧ w'.cell? (ad.add (i * 5)) = some (.int .i64 x.f4[i].f0) ∧ w'.cell? ⟨(ad.add (i * 5)).block, (ad.add (i * 5)).off + 1, none⟩ = some (.int .i64 x.f4[i].f1) ∧ w'.cell? ⟨(ad.add (i * 5)).block, (ad.add (i * 5)).off + 2, none⟩ = some (.string x.f4[i].f2) ∧ w'.cell? ⟨(ad.add (i * 5)).block, (ad.add (i * 5)).off + 3, none⟩ = some (.slice X3 x.f4[i].f3.length e3) ∧ w'.cell? ⟨(ad.add (i * 5)).block, (ad.add (i * 5)).off + 4, none⟩ = some (.slice X4 x.f4[i].f4.length e4) ∧ w'.cell? (bd.add (i * 5)) = some (.int .i64 x.f4[i].f0) ∧ w'.cell? ⟨(bd.add (i * 5)).block, (bd.add (i * 5)).off + 1, none⟩ = some (.int .i64 x.f4[i].f1) ∧ w'.cell? ⟨(bd.add (i * 5)).block, (bd.add (i * 5)).off + 2, none⟩ = some (.string x.f4[i].f2) ∧ w'.cell? ⟨(bd.add (i * 5)).block, (bd.add (i * 5)).off + 3, none⟩ = some (.slice Y3 x.f4[i].f3.length j3) ∧ w'.cell? ⟨(bd.add (i * 5)).block, (bd.add (i * 5)).off + 4, none⟩ = some (.slice Y4 x.f4[i].f4.length j4))) (by kernel_rfl) ?_ (fun hHeld => ?_)
        · (try dsimp only)
          ((refine and_of (fun hB_ => ⟨cell_up hB_ z0, cell_up hB_ z1, cell_up hB_ x0, cell_up hB_ x1, cell_up hB_ x2, cell_up hB_ x3, cell_up hB_ x4, cell_up hB_ y0, cell_up hB_ y1, cell_up hB_ y2, cell_up hB_ y3, cell_up hB_ y4⟩) ?_; first | (with_reducible exact (Below.refl _ _).drew) | (with_reducible exact below_call' (And.left (by assumption)) (by assumption)) | (with_reducible exact And.left (by assumption))))
        (first | (refine take_held (i := 0) (d := (some 56)) (v := ?_) rfl rfl (by kernel_rfl) (by kernel_rfl) (by kernel_rfl) (fun _ _ _ h => h) (Or.inl ⟨by rfl, ?_⟩) (by assumption) ?_; rotate_left 1; focus ((intro w hSw; (try dsimp only at hSw); first | (go_simp; done) | (go_simp; with_reducible rfl)); done); (try simp only [Act.put, List.setIfInBounds_toArray, List.set_cons_zero, List.set_cons_succ])))
        (try simp only [Act.put, List.setIfInBounds_toArray, List.set_cons_zero, List.set_cons_succ])
        (first | (refine take_held (i := 1) (d := (some 57)) (v := ?_) rfl rfl (by kernel_rfl) (by kernel_rfl) (by kernel_rfl) (fun _ _ _ h => h) (Or.inl ⟨by rfl, ?_⟩) (by assumption) ?_; rotate_left 1; focus ((intro w hSw; (try dsimp only at hSw); first | (go_simp; done) | (go_simp; with_reducible rfl)); done); (try simp only [Act.put, List.setIfInBounds_toArray, List.set_cons_zero, List.set_cons_succ])))
        (try simp only [Act.put, List.setIfInBounds_toArray, List.set_cons_zero, List.set_cons_succ])
        (first | (refine take_held (i := 2) (d := (some 58)) (v := ?_) rfl rfl (by kernel_rfl) (by kernel_rfl) (by kernel_rfl) (fun _ _ _ h => h) (Or.inl ⟨by rfl, ?_⟩) (by assumption) ?_; rotate_left 1; focus ((intro w hSw; (try dsimp only at hSw); first | (go_simp; done) | (go_simp; with_reducible rfl)); done); (try simp only [Act.put, List.setIfInBounds_toArray, List.set_cons_zero, List.set_cons_succ])))
        (try simp only [Act.put, List.setIfInBounds_toArray, List.set_cons_zero, List.set_cons_succ])
        (first | (refine take_held (i := 3) (d := (some 59)) (v := ?_) rfl rfl (by kernel_rfl) (by kernel_rfl) (by kernel_rfl) (fun _ _ _ h => h) (Or.inl ⟨by rfl, ?_⟩) (by assumption) ?_; rotate_left 1; focus ((intro w hSw; (try dsimp only at hSw); first | (go_simp; done) | (go_simp; with_reducible rfl)); done); (try simp only [Act.put, List.setIfInBounds_toArray, List.set_cons_zero, List.set_cons_succ])))
        (try simp only [Act.put, List.setIfInBounds_toArray, List.set_cons_zero, List.set_cons_succ])
        (first | (refine take_held (i := 4) (d := (some 60)) (v := ?_) rfl rfl (by kernel_rfl) (by kernel_rfl) (by kernel_rfl) (fun _ _ _ h => h) (Or.inl ⟨by rfl, ?_⟩) (by assumption) ?_; rotate_left 1; focus ((intro w hSw; (try dsimp only at hSw); first | (go_simp; done) | (go_simp; with_reducible rfl)); done); (try simp only [Act.put, List.setIfInBounds_toArray, List.set_cons_zero, List.set_cons_succ])))
        (try simp only [Act.put, List.setIfInBounds_toArray, List.set_cons_zero, List.set_cons_succ])
        (first | (refine take_held (i := 5) (d := (some 61)) (v := ?_) rfl rfl (by kernel_rfl) (by kernel_rfl) (by kernel_rfl) (fun _ _ _ h => h) (Or.inl ⟨by rfl, ?_⟩) (by assumption) ?_; rotate_left 1; focus ((intro w hSw; (try dsimp only at hSw); first | (go_simp; done) | (go_simp; with_reducible rfl)); done); (try simp only [Act.put, List.setIfInBounds_toArray, List.set_cons_zero, List.set_cons_succ])))
        (try simp only [Act.put, List.setIfInBounds_toArray, List.set_cons_zero, List.set_cons_succ])
        (first | (refine take_held (i := 6) (d := (some 62)) (v := ?_) rfl rfl (by kernel_rfl) (by kernel_rfl) (by kernel_rfl) (fun _ _ _ h => h) (Or.inl ⟨by rfl, ?_⟩) (by assumption) ?_; rotate_left 1; focus ((intro w hSw; (try dsimp only at hSw); first | (go_simp; done) | (go_simp; with_reducible rfl)); done); (try simp only [Act.put, List.setIfInBounds_toArray, List.set_cons_zero, List.set_cons_succ])))
        (try simp only [Act.put, List.setIfInBounds_toArray, List.set_cons_zero, List.set_cons_succ])
        (first | (refine take_held (i := 7) (d := (some 63)) (v := ?_) rfl rfl (by kernel_rfl) (by kernel_rfl) (by kernel_rfl) (fun _ _ _ h => h) (Or.inl ⟨by rfl, ?_⟩) (by assumption) ?_; rotate_left 1; focus ((intro w hSw; (try dsimp only at hSw); first | (go_simp; done) | (go_simp; with_reducible rfl)); done); (try simp only [Act.put, List.setIfInBounds_toArray, List.set_cons_zero, List.set_cons_succ])))
        (try simp only [Act.put, List.setIfInBounds_toArray, List.set_cons_zero, List.set_cons_succ])
        (first | (refine take_held (i := 8) (d := (some 64)) (v := ?_) rfl rfl (by kernel_rfl) (by kernel_rfl) (by kernel_rfl) (fun _ _ _ h => h) (Or.inl ⟨by rfl, ?_⟩) (by assumption) ?_; rotate_left 1; focus ((intro w hSw; (try dsimp only at hSw); first | (go_simp; done) | (go_simp; with_reducible rfl)); done); (try simp only [Act.put, List.setIfInBounds_toArray, List.set_cons_zero, List.set_cons_succ])))
        (try simp only [Act.put, List.setIfInBounds_toArray, List.set_cons_zero, List.set_cons_succ])
        (first | (refine take_held (i := 9) (d := (some 65)) (v := ?_) rfl rfl (by kernel_rfl) (by kernel_rfl) (by kernel_rfl) (fun _ _ _ h => h) (Or.inl ⟨by rfl, ?_⟩) (by assumption) ?_; rotate_left 1; focus ((intro w hSw; (try dsimp only at hSw); first | (go_simp; done) | (go_simp; with_reducible rfl)); done); (try simp only [Act.put, List.setIfInBounds_toArray, List.set_cons_zero, List.set_cons_succ])))
        (try simp only [Act.put, List.setIfInBounds_toArray, List.set_cons_zero, List.set_cons_succ])
        (first
          | (refine wpAnyH_ready (rs := [10]) (by kernel_rfl) (by simp) ?_; refine AllReadyH.cons (o := _) rfl (fun K hK => ?_) AllReadyH.nil; go_simp; (go_at_call 22; refine (HS.out _ (List.getElem_mem hi) _ _ _ _ _ _ _ _ _ (fx.below (And.left (by assumption))) (fy.below (And.left (by assumption)))).mono ?_; rintro e_ wA ⟨rfl, hbA⟩); (try go_wp2_with fail); refine hK.out _ _ (by (try dsimp only); ((refine and_of (fun hB_ => ⟨cell_up hB_ z0, cell_up hB_ z1, cell_up hB_ x0, cell_up hB_ x1, cell_up hB_ x2, cell_up hB_ x3, cell_up hB_ x4, cell_up hB_ y0, cell_up hB_ y1, cell_up hB_ y2, cell_up hB_ y3, cell_up hB_ y4⟩) ?_; first | (with_reducible exact (Below.refl _ _).drew) | (with_reducible exact below_call' (And.left (by assumption)) (by assumption)) | (with_reducible exact And.left (by assumption))))) ?_; clear hHeld hK K; intro hHeld; (try simp only [Act.put, List.setIfInBounds_toArray, List.set_cons_zero, List.set_cons_succ])))
        (first | (refine take_held (i := 11) (d := (some 67)) (v := ?_) rfl rfl (by kernel_rfl) (by kernel_rfl) (by kernel_rfl) (fun _ _ _ h => h) (Or.inl ⟨by rfl, ?_⟩) (by assumption) ?_; rotate_left 1; focus ((intro w hSw; (try dsimp only at hSw); first | (go_simp; done) | (go_simp; with_reducible rfl)); done); (try simp only [Act.put, List.setIfInBounds_toArray, List.set_cons_zero, List.set_cons_succ])))
        (try simp only [Act.put, List.setIfInBounds_toArray, List.set_cons_zero, List.set_cons_succ])
        (try simp only [Act.put, List.setIfInBounds_toArray, List.set_cons_zero, List.set_cons_succ])
        refine wpAnyH_done (by kernel_rfl) ?_ _
        have hbR := below_call' (And.left hHeld) (Below.refl _ _)
        exact hmain.out _ hbR
      intro W hb
      have br2 := chain br hb
      clear x0 x1 x2 x3 x4 y0 y1 y2 y3 y4 z0 z1 fx fy br hb
      go_wp2
      go_roundg k1
      case measure => omega
      case rel => exact ⟨i + 1, (by rw [wrap_up (by have := HL.out; omega)]), by have := HK.out; omega, br2⟩
    · have cn : decide ((i : Int) < (x.f4.length : Int)) = false := decide_eq_false (by omega)
      have b2 := chain b1 br
      clear p0 p1 p2 p3 p4 q0 q1 q2 q3 q4 lp lq hA hB
      go_wp2
      go_ret
      exact ⟨rfl, b2⟩
theorem says_typ : ∀ (n : Nat) (x : Ty), SizeOf.sizeOf x < n → Okt x → SaysT x
  | 0, x, h, _ => absurd h (by omega)
  | n + 1, x, h, ho => typ_c x ho fun y hy => says_typ n y (by have := size_args x y hy; omega) (ho.all y hy)
theorem all_c (l : List Ty) (hl : l.length * 80 ≤ 140737488351232) (ho : ∀ y, y ∈ l → Okt y) {A A' : Option Addr} {c c' : Nat} {w : World} (h : kTy.C w A l.length l) (hc : l.length ≤ c) (h' : kTy.C w A' l.length l) (hc' : l.length ≤ c') :
    Calls Try.prog 50 #[.slice A l.length c, .slice A' l.length c'] w fun e w' => e = .returned (.bool true) ∧ Below w.heap.size w w' :=
  (alls_c l (fun y hy => says_typ _ y (Nat.lt_succ_self _) (ho y hy)) hl h h').mono fun e w' k => k
end Go.Proofs.Ytnfnhjhnfdkinaa.PConvBack
namespace Go.Proofs.Ytnfnhjhnfdkinaa.PConvBack
open Go.RowKit Go.Proofs.YtnfnhjhnfdkinaaW.Mine Go.Proofs.YtnfnhjhnfdkinaaW.PrintWords Go.Proofs.YtnfnhjhnfdkinaaW.PrintLast Go.Proofs.YtnfnhjhnfdkinaaW.PrintMore
attribute [local go_sem] max2_int min2_int max_two min_two max_three min_three max_four min_four
set_option linter.unusedVariables false
set_option linter.unusedSimpArgs false
/-- SameVal tells yes of x, wherever it lies twice. -/
def SaysV (x : Vl) : Prop := ∀ (A6 : Option Addr) (c6 : Nat) (A7 : Option Addr) (c7 : Nat) (A8 : Option Addr) (c8 : Nat) (B6 : Option Addr) (d6 : Nat) (B7 : Option Addr) (d7 : Nat) (B8 : Option Addr) (d8 : Nat) (w : World), RV w x A6 c6 A7 c7 A8 c8 → RV w x B6 d6 B7 d7 B8 d8 →
  Calls Try.prog 46 #[vv x A6 c6 A7 c7 A8 c8, vv x B6 d6 B7 d7 B8 d8] w (Yes w)
theorem label_eqA (d : Nat) (w : World) (x0 y0 : ByteArray) (x1 y1 : Int) :
    (Op.equalIn (d + 2) 52 (.agg #[.string x0, .int .i64 x1]) (.agg #[.string y0, .int .i64 y1])).run Try.prog w = .ok ((x0.toList == y0.toList) && (x1 == y1)) w := by
  refine eqA_of Try.underlying52 (by kernel_rfl) ?_
  refine eqf_cons (by rfl) (by go_simp; rfl) (by go_simp; rfl) (by go_simp) ?_
  exact eqf_last (by rfl) (by go_simp; rfl) (by go_simp; rfl) (by go_simp)
theorem label_eq (s : ByteArray) (n : Int) (w : World) : (binOp .neq 52 (.agg #[.string s, .int .i64 n]) (.agg #[.string s, .int .i64 n])).run Try.prog w = .ok (.bool false) w := by
  rw [run_neq_struct, show (10000 : Nat) = 9998 + 2 from rfl, label_eqA]
  simp [Result.andThen]
end Go.Proofs.Ytnfnhjhnfdkinaa.PConvBack
namespace Go.Proofs.Ytnfnhjhnfdkinaa.PConvBack
open Go.RowKit Go.Proofs.YtnfnhjhnfdkinaaW.Mine Go.Proofs.YtnfnhjhnfdkinaaW.PrintWords Go.Proofs.YtnfnhjhnfdkinaaW.PrintLast Go.Proofs.YtnfnhjhnfdkinaaW.PrintMore
attribute [local go_sem] max2_int min2_int max_two min_two max_three min_three max_four min_four
set_option linter.unusedVariables false
set_option linter.unusedSimpArgs false
/-- An element of a list of values. -/
theorem veltC {w : World} {A : Option Addr} {l : List Vl} (h : kVl.C w A l.length l) (i : Nat) (hi : i < l.length) : ∃ ad A6 c6 A7 c7 A8 c8, A = some ad ∧ RV w l[i] A6 c6 A7 c7 A8 c8
    ∧ w.cell? (ad.add (i * 10)) = some (.int .i64 l[i].f0)
    ∧ w.cell? ⟨(ad.add (i * 10)).block, (ad.add (i * 10)).off + 1, none⟩ = some (.int .i64 l[i].f1)
    ∧ w.cell? ⟨(ad.add (i * 10)).block, (ad.add (i * 10)).off + 2, none⟩ = some (.int .i64 l[i].f2)
    ∧ w.cell? ⟨(ad.add (i * 10)).block, (ad.add (i * 10)).off + 3, none⟩ = some (.bool l[i].f3)
    ∧ w.cell? ⟨(ad.add (i * 10)).block, (ad.add (i * 10)).off + 4, none⟩ = some (.string l[i].f4)
    ∧ w.cell? ⟨(ad.add (i * 10)).block, (ad.add (i * 10)).off + 5, none⟩ = some (.string l[i].f5.f0)
    ∧ w.cell? ⟨(ad.add (i * 10)).block, (ad.add (i * 10)).off + 6, none⟩ = some (.int .i64 l[i].f5.f1)
    ∧ w.cell? ⟨(ad.add (i * 10)).block, (ad.add (i * 10)).off + 7, none⟩ = some (.slice A6 l[i].f6.length c6)
    ∧ w.cell? ⟨(ad.add (i * 10)).block, (ad.add (i * 10)).off + 8, none⟩ = some (.slice A7 l[i].f7.length c7)
    ∧ w.cell? ⟨(ad.add (i * 10)).block, (ad.add (i * 10)).off + 9, none⟩ = some (.slice A8 l[i].f8.length c8) := by
  obtain ⟨ad, A6, c6, A7, c7, A8, c8, e, h0, h1, h2, h3, h4, h5, h6, h7, h8, h9, g6, r6, g7, r7, g8, r8⟩ := at_T55 h (i : Int) (by omega) (by omega)
  have q : rd_T55 l (i : Int) = l[i] := getD_at _ l i hi
  rw [q] at h0 h1 h2 h3 h4 h5 h6 h7 h8 h9 g6 r6 g7 r7 g8 r8
  rw [Int.toNat_natCast] at h0 h1 h2 h3 h4 h5 h6 h7 h8 h9
  exact ⟨ad, A6, c6, A7, c7, A8, c8, e, ⟨g6, r6, g7, r7, g8, r8⟩, h0, h1, h2, h3, h4, h5, h6, h7, h8, h9⟩
set_option maxHeartbeats 4000000 in
set_option maxRecDepth 100000 in
theorem vals_c (l : List Vl) (hs : ∀ y, y ∈ l → SaysV y) (hl : l.length * 144 ≤ 140737488351232) {A A' : Option Addr} {c c' : Nat} {w : World} (h : kVl.C w A l.length l) (h' : kVl.C w A' l.length l) :
    Calls Try.prog 83 #[.slice A l.length c, .slice A' l.length c'] w (Yes w) := by
  have h1 := Aside0.mk h
  have h2 := Aside0.mk h'
  have HL := Aside0.mk hl
  clear h h' hl
  go_enter Try.func83, Try.ntmps83
  go_wp2_with fail
  go_loopg [5] l.length (fun kq v5 w' => ∃ (i : Nat), v5 = .int .i64 i ∧ kq + i = l.length ∧ Below w.heap.size w w')
  case atStart => exact ⟨0, rfl, rfl, Below.refl _ _⟩
  case round =>
    obtain ⟨i, rfl, hk, br⟩ := hrel
    by_cases hi : i < l.length
    · obtain ⟨k1, rfl⟩ : ∃ k1, gk = k1 + 1 := ⟨gk - 1, by omega⟩
      have ci : decide ((i : Int) < (l.length : Int)) = true := decide_eq_true (by omega)
      have i0 : (0 : Int) ≤ (i : Int) := by omega
      have i1 : (i : Int) < (l.length : Int) := by omega
      obtain ⟨ad, A6, c6, A7, c7, A8, c8, eA, fx, x0, x1, x2, x3, x4, x5, x6, x7, x8, x9⟩ := veltC h1.out i hi
      obtain ⟨bd, B6, d6, B7, d7, B8, d8, eB, fy, y0, y1, y2, y3, y4, y5, y6, y7, y8, y9⟩ := veltC h2.out i hi
      subst eA eB
      replace fx := fx.below br
      replace fy := fy.below br
      replace x0 := cell_up br x0
      replace x1 := cell_up br x1
      replace x2 := cell_up br x2
      replace x3 := cell_up br x3
      replace x4 := cell_up br x4
      replace x5 := cell_up br x5
      replace x6 := cell_up br x6
      replace x7 := cell_up br x7
      replace x8 := cell_up br x8
      replace x9 := cell_up br x9
      replace y0 := cell_up br y0
      replace y1 := cell_up br y1
      replace y2 := cell_up br y2
      replace y3 := cell_up br y3
      replace y4 := cell_up br y4
      replace y5 := cell_up br y5
      replace y6 := cell_up br y6
      replace y7 := cell_up br y7
      replace y8 := cell_up br y8
      replace y9 := cell_up br y9
      have HK := Aside0.mk hk
      clear hk
      go_wp2_with fail
      refine with_cont (G := ∀ W, Below wr.heap.size wr W → (?P1 : World → Prop) W) ?cont1 fun hmain => ?reg1
      case reg1 =>
        refine wp_region_held_drew (S := (fun w' => Below wr.heap.size wr w' ∧ w'.cell? (ad.add (i * 10)) = some (.int .i64 l[i].f0) ∧ w'.cell? ⟨(ad.add (i * 10)).block, (ad.add (i * 10)).off + 1, none⟩ = some (.int .i64 l[i].f1) ∧ w'.cell? ⟨(ad.add (i * 10)).block, (ad.add (i * 10)).off + 2, none⟩ = some (.int .i64 l[i].f2) ∧ w'.cell? ⟨(ad.add (i * 10)).block, (ad.add (i * 10)).off + 3, none⟩ = some (.bool l[i].f3) ∧ w'.cell? ⟨(ad.add (i * 10)).block, (ad.add (i * 10)).off + 4, none⟩ = some (.string l[i].f4) ∧ w'.cell? ⟨(ad.add (i * 10)).block, (ad.add (i * 10)).off + 5, none⟩ = some (.string l[i].f5.f0) ∧ w'.cell? ⟨(ad.add (i * 10)).block, (ad.add (i * 10)).off + 6, none⟩ = some (.int .i64 l[i].f5.f1) ∧ w'.cell? ⟨(ad.add (i * 10)).block, (ad.add (i * 10)).off + 7, none⟩ = some (.slice A6 l[i].f6.length c6) ∧ w'.cell? ⟨(ad.add (i * 10)).block, (ad.add (i * 10)).off + 8, none⟩ = some (.slice A7 l[i].f7.length c7) ∧ w'.cell? ⟨(ad.add (i * 10)).block, (ad.add (i * 10)).off + 9, none⟩ = some (.slice A8 l[i].f8.length c8) ∧ w'.cell? (bd.add (i * 10)) = some (.int .i64 l[i].f0) ∧ w'.cell? ⟨(bd.add (i * 10)).block, (bd.add (i * 10)).off + 1, none⟩ = some (.int .i64 l[i].f1) ∧ w'.cell? ⟨(bd.add (i * 10)).block, (bd.add (i * 10)).off + 2, none⟩ = some (.int .i64 l[i].f2) ∧ w'.cell? ⟨(bd.add (i * 10)).block, (bd.add (i * 10)).off + 3, none⟩ = some (.bool l[i].f3) ∧ w'.cell? ⟨(bd.add (i * 10)).block, (bd.add (i * 10)).off + 4, none⟩ = some (.string l[i].f4) ∧ w'.cell? ⟨(bd.add (i * 10)).block, (bd.add (i * 10)).off + 5, none⟩ = some (.string l[i].f5.f0) ∧ w'.cell? ⟨(bd.add (i * 10)).block, (bd.add (i * 10)).off + 6, none⟩ = some (.int .i64 l[i].f5.f1) ∧ w'.cell? ⟨(bd.add (i * 10)).block, (bd.add (i * 10)).off + 7, none⟩ = some (.slice B6 l[i].f6.length d6) ∧ w'.cell? ⟨(bd.add (i * 10)).block, (bd.add (i * 10)).off + 8, none⟩ = some (.slice B7 l[i].f7.length d7) ∧ w'.cell? ⟨(bd.add (i * 10)).block, (bd.add (i * 10)).off + 9, none⟩ = some (.slice B8 l[i].f8.length d8))) (by kernel_rfl) ?_ (fun hHeld => ?_)
        · (try dsimp only)
          ((refine and_of (fun hB_ => ⟨cell_up hB_ x0, cell_up hB_ x1, cell_up hB_ x2, cell_up hB_ x3, cell_up hB_ x4, cell_up hB_ x5, cell_up hB_ x6, cell_up hB_ x7, cell_up hB_ x8, cell_up hB_ x9, cell_up hB_ y0, cell_up hB_ y1, cell_up hB_ y2, cell_up hB_ y3, cell_up hB_ y4, cell_up hB_ y5, cell_up hB_ y6, cell_up hB_ y7, cell_up hB_ y8, cell_up hB_ y9⟩) ?_; first | (with_reducible exact (Below.refl _ _).drew) | (with_reducible exact below_call' (And.left (by assumption)) (by assumption)) | (with_reducible exact And.left (by assumption))))
        (first | (refine take_held (i := 0) (d := (some 23)) (v := ?_) rfl rfl (by kernel_rfl) (by kernel_rfl) (by kernel_rfl) (fun _ _ _ h => h) (Or.inl ⟨by rfl, ?_⟩) (by assumption) ?_; rotate_left 1; focus ((intro w hSw; (try dsimp only at hSw); first | (go_simp; done) | (go_simp; with_reducible rfl)); done); (try simp only [Act.put, List.setIfInBounds_toArray, List.set_cons_zero, List.set_cons_succ])))
        (try simp only [Act.put, List.setIfInBounds_toArray, List.set_cons_zero, List.set_cons_succ])
        (first | (refine take_held (i := 1) (d := (some 24)) (v := ?_) rfl rfl (by kernel_rfl) (by kernel_rfl) (by kernel_rfl) (fun _ _ _ h => h) (Or.inl ⟨by rfl, ?_⟩) (by assumption) ?_; rotate_left 1; focus ((intro w hSw; (try dsimp only at hSw); first | (go_simp; done) | (go_simp; with_reducible rfl)); done); (try simp only [Act.put, List.setIfInBounds_toArray, List.set_cons_zero, List.set_cons_succ])))
        (try simp only [Act.put, List.setIfInBounds_toArray, List.set_cons_zero, List.set_cons_succ])
        (first | (refine take_held (i := 2) (d := (some 25)) (v := ?_) rfl rfl (by kernel_rfl) (by kernel_rfl) (by kernel_rfl) (fun _ _ _ h => h) (Or.inl ⟨by rfl, ?_⟩) (by assumption) ?_; rotate_left 1; focus ((intro w hSw; (try dsimp only at hSw); first | (go_simp; done) | (go_simp; with_reducible rfl)); done); (try simp only [Act.put, List.setIfInBounds_toArray, List.set_cons_zero, List.set_cons_succ])))
        (try simp only [Act.put, List.setIfInBounds_toArray, List.set_cons_zero, List.set_cons_succ])
        (first | (refine take_held (i := 3) (d := (some 26)) (v := ?_) rfl rfl (by kernel_rfl) (by kernel_rfl) (by kernel_rfl) (fun _ _ _ h => h) (Or.inl ⟨by rfl, ?_⟩) (by assumption) ?_; rotate_left 1; focus ((intro w hSw; (try dsimp only at hSw); first | (go_simp; done) | (go_simp; with_reducible rfl)); done); (try simp only [Act.put, List.setIfInBounds_toArray, List.set_cons_zero, List.set_cons_succ])))
        (try simp only [Act.put, List.setIfInBounds_toArray, List.set_cons_zero, List.set_cons_succ])
        (first | (refine take_held (i := 4) (d := (some 27)) (v := ?_) rfl rfl (by kernel_rfl) (by kernel_rfl) (by kernel_rfl) (fun _ _ _ h => h) (Or.inl ⟨by rfl, ?_⟩) (by assumption) ?_; rotate_left 1; focus ((intro w hSw; (try dsimp only at hSw); first | (go_simp; done) | (go_simp; with_reducible rfl)); done); (try simp only [Act.put, List.setIfInBounds_toArray, List.set_cons_zero, List.set_cons_succ])))
        (try simp only [Act.put, List.setIfInBounds_toArray, List.set_cons_zero, List.set_cons_succ])
        (first | (refine take_held (i := 5) (d := (some 28)) (v := ?_) rfl rfl (by kernel_rfl) (by kernel_rfl) (by kernel_rfl) (fun _ _ _ h => h) (Or.inl ⟨by rfl, ?_⟩) (by assumption) ?_; rotate_left 1; focus ((intro w hSw; (try dsimp only at hSw); first | (go_simp; done) | (go_simp; with_reducible rfl)); done); (try simp only [Act.put, List.setIfInBounds_toArray, List.set_cons_zero, List.set_cons_succ])))
        (try simp only [Act.put, List.setIfInBounds_toArray, List.set_cons_zero, List.set_cons_succ])
        (first | (refine take_held (i := 6) (d := (some 29)) (v := ?_) rfl rfl (by kernel_rfl) (by kernel_rfl) (by kernel_rfl) (fun _ _ _ h => h) (Or.inl ⟨by rfl, ?_⟩) (by assumption) ?_; rotate_left 1; focus ((intro w hSw; (try dsimp only at hSw); first | (go_simp; done) | (go_simp; with_reducible rfl)); done); (try simp only [Act.put, List.setIfInBounds_toArray, List.set_cons_zero, List.set_cons_succ])))
        (try simp only [Act.put, List.setIfInBounds_toArray, List.set_cons_zero, List.set_cons_succ])
        (first | (refine take_held (i := 7) (d := (some 30)) (v := ?_) rfl rfl (by kernel_rfl) (by kernel_rfl) (by kernel_rfl) (fun _ _ _ h => h) (Or.inl ⟨by rfl, ?_⟩) (by assumption) ?_; rotate_left 1; focus ((intro w hSw; (try dsimp only at hSw); first | (go_simp; done) | (go_simp; with_reducible rfl)); done); (try simp only [Act.put, List.setIfInBounds_toArray, List.set_cons_zero, List.set_cons_succ])))
        (try simp only [Act.put, List.setIfInBounds_toArray, List.set_cons_zero, List.set_cons_succ])
        (first
          | (refine wpAnyH_ready (rs := [8]) (by kernel_rfl) (by simp) ?_; refine AllReadyH.cons (o := _) rfl (fun K hK => ?_) AllReadyH.nil; go_simp; (go_at_call 46; refine (hs _ (List.getElem_mem hi) _ _ _ _ _ _ _ _ _ _ _ _ _ (fx.below (And.left (by assumption))) (fy.below (And.left (by assumption)))).mono ?_; rintro e_ wA ⟨rfl, hbA⟩); (try go_wp2_with fail); refine hK.out _ _ (by (try dsimp only); ((refine and_of (fun hB_ => ⟨cell_up hB_ x0, cell_up hB_ x1, cell_up hB_ x2, cell_up hB_ x3, cell_up hB_ x4, cell_up hB_ x5, cell_up hB_ x6, cell_up hB_ x7, cell_up hB_ x8, cell_up hB_ x9, cell_up hB_ y0, cell_up hB_ y1, cell_up hB_ y2, cell_up hB_ y3, cell_up hB_ y4, cell_up hB_ y5, cell_up hB_ y6, cell_up hB_ y7, cell_up hB_ y8, cell_up hB_ y9⟩) ?_; first | (with_reducible exact (Below.refl _ _).drew) | (with_reducible exact below_call' (And.left (by assumption)) (by assumption)) | (with_reducible exact And.left (by assumption))))) ?_; clear hHeld hK K; intro hHeld; (try simp only [Act.put, List.setIfInBounds_toArray, List.set_cons_zero, List.set_cons_succ])))
        (first | (refine take_held (i := 9) (d := (some 32)) (v := ?_) rfl rfl (by kernel_rfl) (by kernel_rfl) (by kernel_rfl) (fun _ _ _ h => h) (Or.inl ⟨by rfl, ?_⟩) (by assumption) ?_; rotate_left 1; focus ((intro w hSw; (try dsimp only at hSw); first | (go_simp; done) | (go_simp; with_reducible rfl)); done); (try simp only [Act.put, List.setIfInBounds_toArray, List.set_cons_zero, List.set_cons_succ])))
        (try simp only [Act.put, List.setIfInBounds_toArray, List.set_cons_zero, List.set_cons_succ])
        (try simp only [Act.put, List.setIfInBounds_toArray, List.set_cons_zero, List.set_cons_succ])
        refine wpAnyH_done (by kernel_rfl) ?_ _
        have hbR := below_call' (And.left hHeld) (Below.refl _ _)
        exact hmain.out _ hbR
      intro W hb
      have br2 := chain br hb
      clear x0 x1 x2 x3 x4 x5 x6 x7 x8 x9 y0 y1 y2 y3 y4 y5 y6 y7 y8 y9 fx fy br hb
      go_wp2
      go_roundg k1
      case measure => omega
      case rel => exact ⟨i + 1, (by rw [wrap_up (by have := HL.out; omega)]), by have := HK.out; omega, br2⟩
    · have cn : decide ((i : Int) < (l.length : Int)) = false := decide_eq_false (by omega)
      go_wp2
      go_ret
      exact ⟨rfl, br⟩
set_option maxHeartbeats 4000000 in
set_option maxRecDepth 100000 in
theorem val_c (x : Vl) (ho : Okv x) (hs : ∀ y, y ∈ x.f8 → SaysV y) : SaysV x := by
  intro A6 c6 A7 c7 A8 c8 B6 d6 B7 d7 B8 d8 w hA hB
  obtain ⟨o6, ot, o7, o8, os⟩ := ho.parts
  obtain ⟨⟨kP, kQ⟩, b0⟩ := twob w #[.int .i64 x.f0, .int .i64 x.f1, .int .i64 x.f2, .bool x.f3, .string x.f4, .string x.f5.f0, .int .i64 x.f5.f1, .slice A6 x.f6.length c6, .slice A7 x.f7.length c7, .slice A8 x.f8.length c8] #[.int .i64 x.f0, .int .i64 x.f1, .int .i64 x.f2, .bool x.f3, .string x.f4, .string x.f5.f0, .int .i64 x.f5.f1, .slice B6 x.f6.length d6, .slice B7 x.f7.length d7, .slice B8 x.f8.length d8] 55 55
  obtain ⟨⟨p0, p1, p2, p3, p4, p5, p6, p7, p8, p9⟩, _, lp⟩ := ten kP
  obtain ⟨⟨q0, q1, q2, q3, q4, q5, q6, q7, q8, q9⟩, _, lq⟩ := ten kQ
  replace hA := hA.below b0
  replace hB := hB.below b0
  have hlab : ∀ W, (binOp .neq 52 (.agg #[.string x.f5.f0, .int .i64 x.f5.f1]) (.agg #[.string x.f5.f0, .int .i64 x.f5.f1])).run Try.prog W = .ok (.bool false) W := label_eq _ _
  have O6 := Aside0.mk o6
  have O7 := Aside0.mk o7
  have O8 := Aside0.mk o8
  have B0 := Aside0.mk b0
  clear kP kQ o6 o7 o8 ho os b0
  go_enter Try.func46, Try.ntmps46
  go_wp2_with fail
  generalize hX : (w.alloc (.cells #[.int .i64 x.f0, .int .i64 x.f1, .int .i64 x.f2, .bool x.f3, .string x.f4, .string x.f5.f0, .int .i64 x.f5.f1, .slice A6 x.f6.length c6, .slice A7 x.f7.length c7, .slice A8 x.f8.length c8] 55)).alloc (.cells #[.int .i64 x.f0, .int .i64 x.f1, .int .i64 x.f2, .bool x.f3, .string x.f4, .string x.f5.f0, .int .i64 x.f5.f1, .slice B6 x.f6.length d6, .slice B7 x.f7.length d7, .slice B8 x.f8.length d8] 55) = X at p0 p1 p2 p3 p4 p5 p6 p7 p8 p9 q0 q1 q2 q3 q4 q5 q6 q7 q8 q9 lp lq hA hB B0 ⊢
  clear hX
  go_wp2_with fail
  refine (all_c x.f6 O6.out ot hA.2.1 hA.1 hB.2.1 hB.1).mono ?_
  rintro e w1 ⟨rfl, hb⟩
  replace B0 := Aside0.mk (chain B0.out hb)
  replace hA := hA.below hb
  replace hB := hB.below hb
  replace p0 := cell_up hb p0
  replace p1 := cell_up hb p1
  replace p2 := cell_up hb p2
  replace p3 := cell_up hb p3
  replace p4 := cell_up hb p4
  replace p5 := cell_up hb p5
  replace p6 := cell_up hb p6
  replace p7 := cell_up hb p7
  replace p8 := cell_up hb p8
  replace p9 := cell_up hb p9
  replace q0 := cell_up hb q0
  replace q1 := cell_up hb q1
  replace q2 := cell_up hb q2
  replace q3 := cell_up hb q3
  replace q4 := cell_up hb q4
  replace q5 := cell_up hb q5
  replace q6 := cell_up hb q6
  replace q7 := cell_up hb q7
  replace q8 := cell_up hb q8
  replace q9 := cell_up hb q9
  clear hb
  go_wp2_with fail
  refine (names_c x.f7 O7.out hA.2.2.2.1 hA.2.2.1 hB.2.2.2.1 hB.2.2.1).mono ?_
  rintro e w2 ⟨rfl, hb⟩
  replace B0 := Aside0.mk (chain B0.out hb)
  replace hA := hA.below hb
  replace hB := hB.below hb
  replace p0 := cell_up hb p0
  replace p1 := cell_up hb p1
  replace p2 := cell_up hb p2
  replace p3 := cell_up hb p3
  replace p4 := cell_up hb p4
  replace p5 := cell_up hb p5
  replace p6 := cell_up hb p6
  replace p7 := cell_up hb p7
  replace p8 := cell_up hb p8
  replace p9 := cell_up hb p9
  replace q0 := cell_up hb q0
  replace q1 := cell_up hb q1
  replace q2 := cell_up hb q2
  replace q3 := cell_up hb q3
  replace q4 := cell_up hb q4
  replace q5 := cell_up hb q5
  replace q6 := cell_up hb q6
  replace q7 := cell_up hb q7
  replace q8 := cell_up hb q8
  replace q9 := cell_up hb q9
  clear hb
  go_wp2_with fail
  refine (vals_c x.f8 hs O8.out hA.2.2.2.2.2 hB.2.2.2.2.2).mono ?_
  rintro e w3 ⟨rfl, hb⟩
  replace B0 := Aside0.mk (chain B0.out hb)
  clear hb p0 p1 p2 p3 p4 p5 p6 p7 p8 p9 q0 q1 q2 q3 q4 q5 q6 q7 q8 q9
  go_wp2
  go_ret
  exact ⟨rfl, B0.out⟩
theorem says_val : ∀ (n : Nat) (x : Vl), SizeOf.sizeOf x < n → Okv x → SaysV x
  | 0, x, h, _ => absurd h (by omega)
  | n + 1, x, h, ho => val_c x ho fun y hy => says_val n y (by
      have := List.sizeOf_lt_of_mem hy
      cases x
      simp at h this ⊢
      omega) (ho.parts.2.2.2.2 y hy)
end Go.Proofs.Ytnfnhjhnfdkinaa.PConvBack
namespace Go.Proofs.Ytnfnhjhnfdkinaa.PConvBack
open Go.RowKit Go.Proofs.YtnfnhjhnfdkinaaW.Mine Go.Proofs.YtnfnhjhnfdkinaaW.PrintWords Go.Proofs.YtnfnhjhnfdkinaaW.PrintLast Go.Proofs.YtnfnhjhnfdkinaaW.PrintMore
set_option linter.unusedVariables false
set_option linter.unusedSimpArgs false
theorem saysV {x : Vl} (o : Okv x) : SaysV x := says_val _ x (Nat.lt_succ_self _) o
end Go.Proofs.Ytnfnhjhnfdkinaa.PConvBack
namespace Go.Proofs.Ytnfnhjhnfdkinaa.PConvBack
open Go.RowKit Go.Proofs.YtnfnhjhnfdkinaaW.Mine Go.Proofs.YtnfnhjhnfdkinaaW.PrintWords Go.Proofs.YtnfnhjhnfdkinaaW.PrintLast Go.Proofs.YtnfnhjhnfdkinaaW.PrintMore
set_option linter.unusedVariables false
set_option linter.unusedSimpArgs false
mutual
def plain (f : Ty → Option Ty) : Ty → Ty
  | ⟨a0, a1, a2, a3, a4⟩ => match f ⟨a0, a1, a2, a3, a4⟩ with
    | some u => u
    | none => ⟨a0, a1, a2, a3, plainAll f a4⟩
def plainAll (f : Ty → Option Ty) : List Ty → List Ty
  | [] => []
  | a :: l => plain f a :: plainAll f l
end
theorem plain_eq (f : Ty → Option Ty) (x : Ty) : plain f x = match f x with
    | some u => u
    | none => ⟨x.f0, x.f1, x.f2, x.f3, plainAll f x.f4⟩ := by
  cases x; simp only [plain]
theorem plainAll_cons (f : Ty → Option Ty) (a : Ty) (l : List Ty) : plainAll f (a :: l) = plain f a :: plainAll f l := by simp only [plainAll]
theorem plainAll_nil (f : Ty → Option Ty) : plainAll f [] = [] := by simp only [plainAll]
theorem plainAll_map (f : Ty → Option Ty) : ∀ l, plainAll f l = l.map (plain f)
  | [] => by rw [plainAll_nil]; rfl
  | a :: l => by rw [plainAll_cons, plainAll_map f l]; rfl
def turnOpen (may : Bool) (a : Int) (l : List Ty) (x : Ty) : Option Ty := if may = true ∧ x.f0 = 9 ∧ a ≤ x.f1 ∧ x.f1 - a < (l.length : Int) then some (l.getD (x.f1 - a).toNat z25) else none
theorem turnOpen_no {may : Bool} {a : Int} {l : List Ty} {x : Ty} (h : ¬ (may = true ∧ x.f0 = 9 ∧ a ≤ x.f1 ∧ x.f1 - a < (l.length : Int))) : turnOpen may a l x = none := if_neg h
/-- As Sm, and each node's number within 64 bits. -/
inductive Sn : Ty → Prop
  | mk (x : Ty) (hl : x.f4.length * 80 ≤ 140737488351232) (hr : -9223372036854775808 ≤ x.f1 ∧ x.f1 ≤ 9223372036854775807) (hs : ∀ y, y ∈ x.f4 → Sn y) : Sn x
theorem Sn.len {x : Ty} (h : Sn x) : x.f4.length * 80 ≤ 140737488351232 := by cases h; assumption
theorem Sn.rng {x : Ty} (h : Sn x) : -9223372036854775808 ≤ x.f1 ∧ x.f1 ≤ 9223372036854775807 := by cases h; assumption
theorem Sn.all {x : Ty} (h : Sn x) : ∀ y, y ∈ x.f4 → Sn y := by cases h; assumption
def Openeds (a : Int) (l : List Ty) (t u : Ty) : Prop := Ev (fun k => limbeckref07_opened.f k t.f0 t.f1 t.f2 t.f3 t.f4 a l) (u.f0, u.f1, u.f2, u.f3, u.f4)
theorem opened_l0 (a : Int) (l : List Ty) (t : Ty) (hl : t.f4.length * 80 ≤ 140737488351232) (hs : ∀ y, y ∈ t.f4 → Openeds a l y (plain (turnOpen true a l) y)) (d i : Nat) (hd : d + i = t.f4.length) :
    Ev (fun k => limbeckref07_opened.l0 k a l i t.f0 t.f1 t.f2 t.f3 t.f4 t.f0 t.f1 t.f2 t.f3 ((t.f4.take i).map (plain (turnOpen true a l)))) (t.f0, t.f1, t.f2, t.f3, t.f4.map (plain (turnOpen true a l))) := by
  induction d generalizing i with
  | zero => exact Ev.step (fun _ => rfl) (Ev.neg (by omega) (Ev.rets (by rw [List.take_of_length_le (by omega)])))
  | succ d ih =>
    have hi : i < t.f4.length := by omega
    have hu := hs _ (rdT_mem t.f4 i hi)
    have e : (t.f4.take i).map (plain (turnOpen true a l)) ++ [plain (turnOpen true a l) (rd_T25 t.f4 i)] = (t.f4.take (i + 1)).map (plain (turnOpen true a l)) := by
      rw [rdT_at t.f4 i hi, List.take_succ_eq_append_getElem hi, List.map_append]; rfl
    have hlen : ((t.f4.take i).map (plain (turnOpen true a l))).length = i := by rw [List.length_map, List.length_take]; omega
    have ih := ih (i + 1) (by omega)
    rw [← e] at ih
    unfold Openeds at hu
    generalize plain (turnOpen true a l) (rd_T25 t.f4 i) = u at hu ih
    obtain ⟨u0, u1, u2, u3, u4⟩ := u
    have key : Ev (fun k => if ((t.f4.take i).map (plain (turnOpen true a l))).length < 1759218604441 then (limbeckref07_opened.l0 k a l (wrap64 ((i : Int) + 1)) t.f0 t.f1 t.f2 t.f3 t.f4 t.f0 t.f1 t.f2 t.f3 ((t.f4.take i).map (plain (turnOpen true a l)) ++ [(⟨u0, u1, u2, u3, u4⟩ : Ty)])) else none) (t.f0, t.f1, t.f2, t.f3, t.f4.map (plain (turnOpen true a l))) := by
      refine Ev.pos (by omega) ?_
      rw [wrap_ok (show -9223372036854775808 ≤ (i : Int) + 1 by omega) (by omega)]
      exact ih
    exact Ev.step (fun _ => rfl) (Ev.pos (by omega) (Ev.pos (by omega) (Ev.bind hu key)))
theorem opened_f (a : Int) (ha : 0 ≤ a) (ha1 : a ≤ 1073741824) (l : List Ty) (hl : l.length ≤ 140737488351232) : ∀ (n : Nat) (t : Ty), SizeOf.sizeOf t < n → Okt t → Sn t → Openeds a l t (plain (turnOpen true a l) t)
  | 0, _, h, _, _ => absurd h (Nat.not_lt_zero _)
  | n + 1, t, h, o, sn => by
    have hr := sn.rng
    have hout := opened_l0 a l t o.l80 (fun y hy => opened_f a ha ha1 l hl n y (by have := size_args t y hy; omega) (o.all y hy) (sn.all y hy)) t.f4.length 0 (by omega)
    have j0f : Ev (fun k => limbeckref07_opened.j0 k a l false t.f0 t.f1 t.f2 t.f3 t.f4) (t.f0, t.f1, t.f2, t.f3, t.f4.map (plain (turnOpen true a l))) :=
      Ev.step (f := fun k => limbeckref07_opened.l0 k a l 0 t.f0 t.f1 t.f2 t.f3 t.f4 t.f0 t.f1 t.f2 t.f3 ([] : List Ty)) (fun _ => rfl) hout
    unfold Openeds
    rw [plain_eq]
    by_cases h9 : t.f0 = 9
    · by_cases h1 : t.f1 ≥ a
      · have hw : wrap64 (t.f1 - a) = t.f1 - a := wrap_ok (by omega) (by omega)
        by_cases h2 : wrap64 (t.f1 - a) < (l.length : Int)
        · have e : turnOpen true a l t = some (l.getD (t.f1 - a).toNat z25) := if_pos ⟨rfl, h9, h1, by omega⟩
          rw [e]
          have j0t : Ev (fun k => limbeckref07_opened.j0 k a l true t.f0 t.f1 t.f2 t.f3 t.f4) ((rd_T25 l (wrap64 (t.f1 - a))).f0, (rd_T25 l (wrap64 (t.f1 - a))).f1, (rd_T25 l (wrap64 (t.f1 - a))).f2, (rd_T25 l (wrap64 (t.f1 - a))).f3, (rd_T25 l (wrap64 (t.f1 - a))).f4) :=
            Ev.step (f := fun k => if 0 ≤ (wrap64 (t.f1 - a)) then (if (wrap64 (t.f1 - a)) < (l.length : Int) then (some ((rd_T25 l (wrap64 (t.f1 - a))).f0, (rd_T25 l (wrap64 (t.f1 - a))).f1, (rd_T25 l (wrap64 (t.f1 - a))).f2, (rd_T25 l (wrap64 (t.f1 - a))).f3, (rd_T25 l (wrap64 (t.f1 - a))).f4)) else none) else none) (fun _ => rfl) (Ev.pos (by omega) (Ev.pos h2 (Ev.rets rfl)))
          rw [hw] at j0t
          exact Ev.step (fun _ => rfl) (Ev.pos h9 (Ev.pos h1 (by rw [decide_eq_true h2]; exact j0t)))
        · have e : turnOpen true a l t = none := turnOpen_no (fun h => by omega)
          rw [e, plainAll_map]
          exact Ev.step (fun _ => rfl) (Ev.pos h9 (Ev.pos h1 (by rw [decide_eq_false h2]; exact j0f)))
      · have e : turnOpen true a l t = none := turnOpen_no (fun h => by omega)
        rw [e, plainAll_map]
        exact Ev.step (fun _ => rfl) (Ev.pos h9 (Ev.neg h1 j0f))
    · have e : turnOpen true a l t = none := turnOpen_no (fun h => h9 h.2.1)
      rw [e, plainAll_map]
      exact Ev.step (fun _ => rfl) (Ev.neg h9 j0f)
mutual
theorem plain_id (f : Ty → Option Ty) (hf : ∀ x, f x = none) : ∀ t : Ty, plain f t = t
  | ⟨a0, a1, a2, a3, a4⟩ => by rw [plain_eq, hf]; simp only [plainAll_id f hf a4]
theorem plainAll_id (f : Ty → Option Ty) (hf : ∀ x, f x = none) : ∀ l : List Ty, plainAll f l = l
  | [] => plainAll_nil f
  | a :: l => by rw [plainAll_cons, plain_id f hf a, plainAll_id f hf l]
end
theorem turnOpen_okt {may : Bool} {a : Int} {l : List Ty} (hs : ∀ y, y ∈ l → Okt y) (x u : Ty) (h : turnOpen may a l x = some u) : Okt u := by
  unfold turnOpen at h
  split at h
  · rename_i hc
    have hi : (x.f1 - a).toNat < l.length := by omega
    rw [List.getD_eq_getElem?_getD, List.getElem?_eq_getElem hi] at h
    injection h with h
    subst h
    exact hs _ (List.getElem_mem hi)
  · cases h
end Go.Proofs.Ytnfnhjhnfdkinaa.PConvBack
namespace Go.Proofs.Ytnfnhjhnfdkinaa.PConvBack
open Go.RowKit Go.Proofs.YtnfnhjhnfdkinaaW.Mine Go.Proofs.YtnfnhjhnfdkinaaW.PrintWords Go.Proofs.YtnfnhjhnfdkinaaW.PrintLast Go.Proofs.YtnfnhjhnfdkinaaW.PrintMore
set_option linter.unusedVariables false
set_option linter.unusedSimpArgs false
abbrev NodesF (k : Nat) (y : Ty) : Option Int := limbeckref04_Nodes.f k y.f0 y.f1 y.f2 y.f3 y.f4
theorem nodes_l0 (a0 a1 : Int) (a2 : ByteArray) (l3 : List ByteArray) (l4 : List Ty) (hl : l4.length * 80 ≤ 140737488351232) (hs : ∀ y, y ∈ l4 → ∃ r, Ev (fun k => NodesF k y) r) (d i : Nat) (hd : d + i = l4.length) (x3 : Int) :
    ∃ r, Ev (fun k => limbeckref04_Nodes.l0 k x3 i a0 a1 a2 l3 l4) r := by
  induction d generalizing i x3 with
  | zero => exact ⟨_, Ev.step (fun _ => rfl) (Ev.neg (by omega) (Ev.rets rfl))⟩
  | succ d ih =>
    obtain ⟨t, ht⟩ := hs _ (rdT_mem l4 i (by omega))
    obtain ⟨r, hr⟩ := ih (i + 1) (by omega) (wrap64 (x3 + t))
    refine ⟨r, Ev.step (fun _ => rfl) (Ev.pos (by omega) (Ev.pos (by omega) (Ev.bind ht ?_)))⟩
    rw [wrap_ok (show -9223372036854775808 ≤ (i : Int) + 1 by omega) (by omega)]
    exact hr
theorem nodes_told : ∀ (n : Nat) (x : Ty), SizeOf.sizeOf x < n → Okt x → ∃ r, Ev (fun k => NodesF k x) r
  | 0, _, h, _ => absurd h (Nat.not_lt_zero _)
  | n + 1, x, h, ho => by
    obtain ⟨r, hr⟩ := nodes_l0 x.f0 x.f1 x.f2 x.f3 x.f4 ho.l80 (fun y hy => nodes_told n y (by have := size_args x y hy; omega) (ho.all y hy)) x.f4.length 0 (by omega) 1
    exact ⟨r, Ev.step (fun _ => rfl) hr⟩
mutual
theorem plain_okt (f : Ty → Option Ty) (hf : ∀ x u, f x = some u → Okt u) : ∀ (t : Ty), Okt t → Okt (plain f t)
  | ⟨a0, a1, a2, a3, a4⟩, h => by
    rw [plain_eq]
    cases hq : f ⟨a0, a1, a2, a3, a4⟩ with
    | some u => exact hf _ u hq
    | none => exact .mk _ h.l3 (by have := h.l80; rw [plainAll_map]; simpa using this) (plainAll_okt f hf a4 h.all)
theorem plainAll_okt (f : Ty → Option Ty) (hf : ∀ x u, f x = some u → Okt u) : ∀ (l : List Ty), (∀ y, y ∈ l → Okt y) → ∀ y, y ∈ plainAll f l → Okt y
  | [], _, y, hy => by rw [plainAll_nil] at hy; cases hy
  | a :: l, h, y, hy => by
    rw [plainAll_cons] at hy
    rcases List.mem_cons.1 hy with rfl | hy
    · exact plain_okt f hf a (h a (List.mem_cons_self ..))
    · exact plainAll_okt f hf l (fun z hz => h z (List.mem_cons_of_mem _ hz)) y hy
end
/-- What fitting tells. -/
theorem fitting_told {x : Ty} (o : Okt x) : ∃ b, Ev (fun k => limbeckref07_fitting.f k x.f0 x.f1 x.f2 x.f3 x.f4) (if b = true then (x.f0, x.f1, x.f2, x.f3, x.f4, true) else (0, 0, (⟨#[]⟩ : ByteArray), ([] : List ByteArray), ([] : List Ty), false)) := by
  obtain ⟨r, hr⟩ := nodes_told _ x (Nat.lt_succ_self _) o
  refine ⟨decide (r ≤ 300), ?_⟩
  have h1 : Ev (fun k => limbeckref04_Fits.f k x.f0 x.f1 x.f2 x.f3 x.f4) (decide (r ≤ 300)) := Ev.bind hr (Ev.rets rfl)
  refine Ev.bind h1 ?_
  by_cases h : r ≤ 300
  · rw [decide_eq_true h]; exact Ev.pos rfl (Ev.rets rfl)
  · rw [decide_eq_false h]; exact Ev.neg (by decide) (Ev.rets rfl)
theorem open_told {a : Int} (ha : 0 ≤ a) (ha1 : a ≤ 1073741824) {l : List Ty} (hl : l.length ≤ 140737488351232) (ol : ∀ y, y ∈ l → Okt y) {t : Ty} (o : Okt t) (sn : Sn t) :
    ∃ b k, limbeckref07_Open.f k t.f0 t.f1 t.f2 t.f3 t.f4 a l = some (if b = true then ((plain (turnOpen true a l) t).f0, (plain (turnOpen true a l) t).f1, (plain (turnOpen true a l) t).f2, (plain (turnOpen true a l) t).f3, (plain (turnOpen true a l) t).f4, true) else (0, 0, (⟨#[]⟩ : ByteArray), ([] : List ByteArray), ([] : List Ty), false)) := by
  have h1 := opened_f a ha ha1 l hl _ t (Nat.lt_succ_self _) o sn
  unfold Openeds at h1
  have oq := plain_okt (turnOpen true a l) (fun x u h => turnOpen_okt ol x u h) t o
  generalize plain (turnOpen true a l) t = q at h1 oq ⊢
  obtain ⟨b, hb⟩ := fitting_told oq
  refine ⟨b, ?_⟩
  have jf : Ev (fun k => limbeckref07_Open.j0 k a l false t.f0 t.f1 t.f2 t.f3 t.f4) (if b = true then (q.f0, q.f1, q.f2, q.f3, q.f4, true) else (0, 0, (⟨#[]⟩ : ByteArray), ([] : List ByteArray), ([] : List Ty), false)) :=
    Ev.step (f := fun k => (limbeckref07_opened.f k t.f0 t.f1 t.f2 t.f3 t.f4 a l).bind fun bt184 => ((limbeckref07_fitting.f k bt184.1 bt184.2.1 bt184.2.2.1 bt184.2.2.2.1 bt184.2.2.2.2).bind fun bt193 => (some (bt193.1, bt193.2.1, bt193.2.2.1, bt193.2.2.2.1, bt193.2.2.2.2.1, bt193.2.2.2.2.2)))) (fun _ => rfl) (Ev.bind h1 (Ev.bind hb (Ev.rets rfl)))
  have : Ev (fun k => limbeckref07_Open.f k t.f0 t.f1 t.f2 t.f3 t.f4 a l) (if b = true then (q.f0, q.f1, q.f2, q.f3, q.f4, true) else (0, 0, (⟨#[]⟩ : ByteArray), ([] : List ByteArray), ([] : List Ty), false)) := by
    unfold limbeckref07_Open.f
    refine Ev.neg (by omega) ?_
    rw [decide_eq_false (show ¬ a > 1073741824 by omega)]
    exact jf
  exact this.rounds
end Go.Proofs.Ytnfnhjhnfdkinaa.PConvBack

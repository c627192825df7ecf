/-
  env: the walk of EnvPlays.
-/
import Derived.Test.YtalmhbiedkjpmaaF1
import Derived.Test.YtalmhbiedkjpmaaE16
namespace Go.Proofs.Ytalmhbiedkjpmaa.PEnvPlays
open Go.RowKit Go.Proofs.YtalmhbiedkjpmaaW.Mine Go.Proofs.YtalmhbiedkjpmaaW.PrintWords Go.Proofs.YtalmhbiedkjpmaaW.PrintLast Go.Proofs.YtalmhbiedkjpmaaW.PrintMore
attribute [local go_sem] max2_int min2_int max_two min_two max_three min_three max_four min_four
set_option linter.unusedVariables false
set_option linter.unusedSimpArgs false
theorem rfind_take {l : List Sl} (s : ByteArray) (hl : l.length < 4611686018427387904) (n : Nat) (hn : n ≤ l.length) {A : Option Addr} {c : Nat} {w : World} (h : RS w A c l) :
    Calls Try.prog 32 #[.slice A n c, .string s] w fun e w' => ∃ A6 c6 A7 c7 A8 c8, e = .returned (.tuple #[vv (fv (l.take n).reverse s) A6 c6 A7 c7 A8 c8, .bool (fb (l.take n).reverse s)]) ∧ RV w' (fv (l.take n).reverse s) A6 c6 A7 c7 A8 c8 ∧ Below w.heap.size w w' := by
  have e : (l.take n).length = n := by rw [List.length_take]; omega
  have h' : RS w A c (l.take n) := ⟨Kd.C_take h.1 hn, by rw [e]; exact Nat.le_trans hn h.2⟩
  have r := rfind_c s (by omega) h'
  rw [e] at r
  exact r
def RB (w : World) (A : Option Addr) (c : Nat) (l : List S33) : Prop := k33.C w A l.length l ∧ l.length ≤ c
theorem RB.below {w w1 : World} {A : Option Addr} {c : Nat} {l : List S33} (h : RB w A c l) (hb : Below w.heap.size w w1) : RB w1 A c l := ⟨Kd.C_below h.1 hb, h.2⟩
theorem sall_n {us : List Ty} {n : Nat} (hl : us.length * 80 ≤ 140737488351232) (ho : ∀ y, y ∈ us → Okt y) (hn : us.length = n) {A A' : Option Addr} {c c' : Nat} {w : World} (h : RL w A c us) (h' : RL w A' c' us) :
    Calls Try.prog 34 #[.slice A n c, .slice A' n c'] w fun e w' => e = .returned (.bool true) ∧ Below w.heap.size w w' := by
  subst hn
  exact sall_c hl ho h h'
theorem eclose_c (names : List ByteArray) (b : Int) (hn : names.length ≤ 20) {t : Ty} (o : Okt t) {tp p : Option Addr} {l : List Sl} {A3 A4 : Option Addr} {c3 c4 : Nat} {w : World} (hl : IsEnv w tp p l) (hT : IsTys w tp names b) (hr : RT w t A3 c3 A4 c4) :
    Calls Try.prog 29 #[.pointer p, tv t A3 c3 A4 c4] w (CloseOut w (sealT names b t)) := by
  obtain ⟨k, hk⟩ := sealT_prog names b hn o
  have h := close_c t names b hk hl hT hr
  rw [ty_eta] at h
  exact h
set_option maxHeartbeats 4000000 in
set_option maxRecDepth 100000 in
theorem plays_c (names : List ByteArray) (b : Int) (l : List Sl) (s : ByteArray) (t : List S33) (hn16 : names.length * 16 ≤ 140737488351232) (hl160 : l.length * 160 ≤ 140737488351232) (ht96 : t.length * 96 ≤ 140737488351232) (ol : ∀ y, y ∈ l → Okv y.f1) (ot : ∀ y, y ∈ t → Okt y.f1)
    {A B D : Option Addr} {c d e : Nat} {w : World} (hN : RN w A c names) (hL : RS w B d l) (ht : RB w D e t) :
    Calls Try.prog 8 #[.slice A names.length c, .int .i64 b, .slice B l.length d, .string s, .slice D t.length e] w (Yes w) := by
  obtain ⟨kl, rl, el, hrl⟩ := small_says l hl160 ol
  obtain ⟨kf, mf, ef⟩ := few_told t (by omega) ot
  have b0 := Below.refl w.heap.size w
  have hlt : l.length < 4611686018427387904 := by omega
  clear hrl
  go_enter Try.func8, Try.ntmps8
  go_wp2_with fail
  refine (small_c el hL.1 hL.2).mono ?_
  rintro e_ w1 ⟨rfl, hb⟩
  have b_1 := chain b0 hb
  replace hN := hN.below hb
  replace hL := hL.below hb
  replace ht := ht.below hb
  clear b0
  clear hb
  cases rl with
  | false =>
    go_wp2_with fail
    refine (awake_c _).mono ?_
    rintro e_ w_ ⟨rfl, hb⟩
    have b_2 := chain b_1 hb
    replace hN := hN.below hb
    replace hL := hL.below hb
    replace ht := ht.below hb
    clear b_1
    clear hb
    go_wp2
    go_ret
    exact ⟨rfl, b_2⟩
  | true =>
    by_cases hnm : 20 < (names.length : Int)
    · have cnm : decide (20 < (names.length : Int)) = true := decide_eq_true hnm
      have cnm2 : decide (20 < names.length) = true := decide_eq_true (by omega)
      go_wp2_with fail
      refine (awake_c _).mono ?_
      rintro e_ w_ ⟨rfl, hb⟩
      have b_3 := chain b_1 hb
      replace hN := hN.below hb
      replace hL := hL.below hb
      replace ht := ht.below hb
      clear b_1
      clear hb
      go_wp2
      go_ret
      exact ⟨rfl, b_3⟩
    have cnm : decide (20 < (names.length : Int)) = false := decide_eq_false hnm
    have cnm2 : decide (20 < names.length) = false := decide_eq_false (by omega)
    have h20 : names.length ≤ 20 := by omega
    have H20 := Aside0.mk h20
    clear h20 hnm
    go_wp2_with fail
    refine (few_c ef ht.1 ht.2).mono ?_
    rintro e_ w_ ⟨rfl, hb⟩
    have b_4 := chain b_1 hb
    replace hN := hN.below hb
    replace hL := hL.below hb
    replace ht := ht.below hb
    clear b_1
    clear hb
    by_cases hm : 100 < mf
    · have cm : decide (100 < mf) = true := decide_eq_true hm
      go_wp2_with fail
      refine (awake_c _).mono ?_
      rintro e_ w_ ⟨rfl, hb⟩
      have b_5 := chain b_4 hb
      replace hN := hN.below hb
      replace hL := hL.below hb
      replace ht := ht.below hb
      clear b_4
      clear hb
      go_wp2
      go_ret
      exact ⟨rfl, b_5⟩
    have cm : decide (100 < mf) = false := decide_eq_false hm
    clear hm
    go_wp2_with fail
    refine (of_c names b _ _ _ hN.1 hN.2 hn16).mono ?_
    rintro e_ w2 ⟨tp, q, rfl, hq, hT, hb⟩
    have b_6 := chain b_4 hb
    replace hN := hN.below hb
    replace hL := hL.below hb
    replace ht := ht.below hb
    clear b_4
    clear hb
    go_wp2_with fail
    go_loopg [11, 12] l.length (fun kq v11 v12 w' => ∃ (i : Nat) (q : Option Addr), v11 = .pointer q ∧ v12 = .int .i64 i ∧ kq + i = l.length ∧ IsEnv w' tp q (l.take i).reverse ∧ Below w2.heap.size w2 w')
    case atStart => exact ⟨0, q, rfl, rfl, rfl, hq, Below.refl _ _⟩
    case round =>
      clear hq
      obtain ⟨i, q, rfl, rfl, hk, hq, br⟩ := hrel
      have b_7 := chain b_6 br
      replace hN := hN.below br
      replace hL := hL.below br
      replace ht := ht.below br
      replace hT := hT.below br
      clear b_6
      by_cases hi : i < l.length
      · obtain ⟨k1, rfl⟩ : ∃ k1, gk = k1 + 1 := ⟨gk - 1, by omega⟩
        have ci : decide ((i : Int) < (l.length : Int)) = true := decide_eq_true (by omega)
        have i0 : (0 : Int) ≤ (i : Int) := by omega
        have i1 : (i : Int) < (l.length : Int) := by omega
        obtain ⟨ad, E6, e6, E7, e7, E8, e8, hA, fx, x0, x1, x2, x3, x4, x5, x6, x7, x8, x9, x10⟩ := selt hL.1 i hi
        subst hA
        have HK := Aside0.mk hk
        clear hk
        go_wp2_with fail
        refine wp_region_held_drew (S := (fun w' => Below wr.heap.size wr w' ∧ w'.cell? (ad.add (i * 11)) = some (.string l[i].f0) ∧ w'.cell? ⟨(ad.add (i * 11)).block, (ad.add (i * 11)).off + 1, none⟩ = some (.int .i64 l[i].f1.f0) ∧ w'.cell? ⟨(ad.add (i * 11)).block, (ad.add (i * 11)).off + 2, none⟩ = some (.int .i64 l[i].f1.f1) ∧ w'.cell? ⟨(ad.add (i * 11)).block, (ad.add (i * 11)).off + 3, none⟩ = some (.int .i64 l[i].f1.f2) ∧ w'.cell? ⟨(ad.add (i * 11)).block, (ad.add (i * 11)).off + 4, none⟩ = some (.bool l[i].f1.f3) ∧ w'.cell? ⟨(ad.add (i * 11)).block, (ad.add (i * 11)).off + 5, none⟩ = some (.string l[i].f1.f4) ∧ w'.cell? ⟨(ad.add (i * 11)).block, (ad.add (i * 11)).off + 6, none⟩ = some (.string l[i].f1.f5.f0) ∧ w'.cell? ⟨(ad.add (i * 11)).block, (ad.add (i * 11)).off + 7, none⟩ = some (.int .i64 l[i].f1.f5.f1) ∧ w'.cell? ⟨(ad.add (i * 11)).block, (ad.add (i * 11)).off + 8, none⟩ = some (.slice E6 l[i].f1.f6.length e6) ∧ w'.cell? ⟨(ad.add (i * 11)).block, (ad.add (i * 11)).off + 9, none⟩ = some (.slice E7 l[i].f1.f7.length e7) ∧ w'.cell? ⟨(ad.add (i * 11)).block, (ad.add (i * 11)).off + 10, none⟩ = some (.slice E8 l[i].f1.f8.length e8))) (by kernel_rfl) ?_ (fun hHeld => ?_)
        · (try dsimp only)
          ((refine and_of (fun hB_ => ⟨cell_up hB_ x0, cell_up hB_ x1, cell_up hB_ x2, cell_up hB_ x3, cell_up hB_ x4, cell_up hB_ x5, cell_up hB_ x6, cell_up hB_ x7, cell_up hB_ x8, cell_up hB_ x9, cell_up hB_ x10⟩) ?_; first | (with_reducible exact (Below.refl _ _).drew) | (with_reducible exact below_call' (And.left (by assumption)) (by assumption)) | (with_reducible exact And.left (by assumption))))
        (first | (refine take_held (i := 0) (d := (some 46)) (v := ?_) rfl rfl (by kernel_rfl) (by kernel_rfl) (by kernel_rfl) (fun _ _ _ h => h) (Or.inl ⟨by rfl, ?_⟩) (by assumption) ?_; rotate_left 1; focus ((intro w hSw; (try dsimp only at hSw); first | (go_simp; done) | (go_simp; with_reducible rfl)); done); (try simp only [Act.put, List.setIfInBounds_toArray, List.set_cons_zero, List.set_cons_succ])))
        (try simp only [Act.put, List.setIfInBounds_toArray, List.set_cons_zero, List.set_cons_succ])
        (first | (refine take_held (i := 1) (d := (some 47)) (v := ?_) rfl rfl (by kernel_rfl) (by kernel_rfl) (by kernel_rfl) (fun _ _ _ h => h) (Or.inl ⟨by rfl, ?_⟩) (by assumption) ?_; rotate_left 1; focus ((intro w hSw; (try dsimp only at hSw); first | (go_simp; done) | (go_simp; with_reducible rfl)); done); (try simp only [Act.put, List.setIfInBounds_toArray, List.set_cons_zero, List.set_cons_succ])))
        (try simp only [Act.put, List.setIfInBounds_toArray, List.set_cons_zero, List.set_cons_succ])
        (first | (refine take_held (i := 2) (d := (some 48)) (v := ?_) rfl rfl (by kernel_rfl) (by kernel_rfl) (by kernel_rfl) (fun _ _ _ h => h) (Or.inl ⟨by rfl, ?_⟩) (by assumption) ?_; rotate_left 1; focus ((intro w hSw; (try dsimp only at hSw); first | (go_simp; done) | (go_simp; with_reducible rfl)); done); (try simp only [Act.put, List.setIfInBounds_toArray, List.set_cons_zero, List.set_cons_succ])))
        (try simp only [Act.put, List.setIfInBounds_toArray, List.set_cons_zero, List.set_cons_succ])
        (first | (refine take_held (i := 3) (d := (some 49)) (v := ?_) rfl rfl (by kernel_rfl) (by kernel_rfl) (by kernel_rfl) (fun _ _ _ h => h) (Or.inl ⟨by rfl, ?_⟩) (by assumption) ?_; rotate_left 1; focus ((intro w hSw; (try dsimp only at hSw); first | (go_simp; done) | (go_simp; with_reducible rfl)); done); (try simp only [Act.put, List.setIfInBounds_toArray, List.set_cons_zero, List.set_cons_succ])))
        (try simp only [Act.put, List.setIfInBounds_toArray, List.set_cons_zero, List.set_cons_succ])
        (first | (refine take_held (i := 4) (d := (some 50)) (v := ?_) rfl rfl (by kernel_rfl) (by kernel_rfl) (by kernel_rfl) (fun _ _ _ h => h) (Or.inl ⟨by rfl, ?_⟩) (by assumption) ?_; rotate_left 1; focus ((intro w hSw; (try dsimp only at hSw); first | (go_simp; done) | (go_simp; with_reducible rfl)); done); (try simp only [Act.put, List.setIfInBounds_toArray, List.set_cons_zero, List.set_cons_succ])))
        (try simp only [Act.put, List.setIfInBounds_toArray, List.set_cons_zero, List.set_cons_succ])
        (first | (refine take_held (i := 5) (d := (some 51)) (v := ?_) rfl rfl (by kernel_rfl) (by kernel_rfl) (by kernel_rfl) (fun _ _ _ h => h) (Or.inl ⟨by rfl, ?_⟩) (by assumption) ?_; rotate_left 1; focus ((intro w hSw; (try dsimp only at hSw); first | (go_simp; done) | (go_simp; with_reducible rfl)); done); (try simp only [Act.put, List.setIfInBounds_toArray, List.set_cons_zero, List.set_cons_succ])))
        (try simp only [Act.put, List.setIfInBounds_toArray, List.set_cons_zero, List.set_cons_succ])
        (first | (refine take_held (i := 6) (d := (some 52)) (v := ?_) rfl rfl (by kernel_rfl) (by kernel_rfl) (by kernel_rfl) (fun _ _ _ h => h) (Or.inl ⟨by rfl, ?_⟩) (by assumption) ?_; rotate_left 1; focus ((intro w hSw; (try dsimp only at hSw); first | (go_simp; done) | (go_simp; with_reducible rfl)); done); (try simp only [Act.put, List.setIfInBounds_toArray, List.set_cons_zero, List.set_cons_succ])))
        (try simp only [Act.put, List.setIfInBounds_toArray, List.set_cons_zero, List.set_cons_succ])
        (first | (refine take_held (i := 7) (d := (some 53)) (v := ?_) rfl rfl (by kernel_rfl) (by kernel_rfl) (by kernel_rfl) (fun _ _ _ h => h) (Or.inl ⟨by rfl, ?_⟩) (by assumption) ?_; rotate_left 1; focus ((intro w hSw; (try dsimp only at hSw); first | (go_simp; done) | (go_simp; with_reducible rfl)); done); (try simp only [Act.put, List.setIfInBounds_toArray, List.set_cons_zero, List.set_cons_succ])))
        (try simp only [Act.put, List.setIfInBounds_toArray, List.set_cons_zero, List.set_cons_succ])
        (first | (refine take_held (i := 8) (d := (some 54)) (v := ?_) rfl rfl (by kernel_rfl) (by kernel_rfl) (by kernel_rfl) (fun _ _ _ h => h) (Or.inl ⟨by rfl, ?_⟩) (by assumption) ?_; rotate_left 1; focus ((intro w hSw; (try dsimp only at hSw); first | (go_simp; done) | (go_simp; with_reducible rfl)); done); (try simp only [Act.put, List.setIfInBounds_toArray, List.set_cons_zero, List.set_cons_succ])))
        (try simp only [Act.put, List.setIfInBounds_toArray, List.set_cons_zero, List.set_cons_succ])
        (first | (refine take_held (i := 9) (d := (some 55)) (v := ?_) rfl rfl (by kernel_rfl) (by kernel_rfl) (by kernel_rfl) (fun _ _ _ h => h) (Or.inl ⟨by rfl, ?_⟩) (by assumption) ?_; rotate_left 1; focus ((intro w hSw; (try dsimp only at hSw); first | (go_simp; done) | (go_simp; with_reducible rfl)); done); (try simp only [Act.put, List.setIfInBounds_toArray, List.set_cons_zero, List.set_cons_succ])))
        (try simp only [Act.put, List.setIfInBounds_toArray, List.set_cons_zero, List.set_cons_succ])
        (first | (refine take_held (i := 10) (d := (some 56)) (v := ?_) rfl rfl (by kernel_rfl) (by kernel_rfl) (by kernel_rfl) (fun _ _ _ h => h) (Or.inl ⟨by rfl, ?_⟩) (by assumption) ?_; rotate_left 1; focus ((intro w hSw; (try dsimp only at hSw); first | (go_simp; done) | (go_simp; with_reducible rfl)); done); (try simp only [Act.put, List.setIfInBounds_toArray, List.set_cons_zero, List.set_cons_succ])))
        (try simp only [Act.put, List.setIfInBounds_toArray, List.set_cons_zero, List.set_cons_succ])
        (first
          | (refine wpAnyH_ready (rs := [11]) (by kernel_rfl) (by simp) ?_; refine AllReadyH.cons (o := _) rfl (fun K hK => ?_) AllReadyH.nil; go_simp; (go_at_call 25; refine (with_c l[i].f0 l[i].f1 (hq.below (And.left hHeld)) (fx.below (And.left hHeld)) (by have := List.length_take_le i l; simp; omega)).mono ?_; rintro e_ wA ⟨q2, rfl, hq2, hbA⟩); (try go_wp2_with fail); refine hK.out _ _ (by (try dsimp only); ((refine and_of (fun hB_ => ⟨cell_up hB_ x0, cell_up hB_ x1, cell_up hB_ x2, cell_up hB_ x3, cell_up hB_ x4, cell_up hB_ x5, cell_up hB_ x6, cell_up hB_ x7, cell_up hB_ x8, cell_up hB_ x9, cell_up hB_ x10⟩) ?_; first | (with_reducible exact (Below.refl _ _).drew) | (with_reducible exact below_call' (And.left hHeld) hbA) | (with_reducible exact And.left (by assumption))))) ?_; clear hHeld hK K; intro hHeld; (try simp only [Act.put, List.setIfInBounds_toArray, List.set_cons_zero, List.set_cons_succ])))
        (first | (refine take_held (i := 12) (d := (some 11)) (v := ?_) rfl rfl (by kernel_rfl) (by kernel_rfl) (by kernel_rfl) (fun _ _ _ h => h) (Or.inl ⟨by rfl, ?_⟩) (by assumption) ?_; rotate_left 1; focus ((intro w hSw; (try dsimp only at hSw); first | (go_simp; done) | (go_simp; with_reducible rfl)); done); (try simp only [Act.put, List.setIfInBounds_toArray, List.set_cons_zero, List.set_cons_succ])))
        (try simp only [Act.put, List.setIfInBounds_toArray, List.set_cons_zero, List.set_cons_succ])
        (try simp only [Act.put, List.setIfInBounds_toArray, List.set_cons_zero, List.set_cons_succ])
        refine wpAnyH_done (by kernel_rfl) ?_ _
        have hb := below_call' (And.left hHeld) (Below.refl _ _)
        clear x0 x1 x2 x3 x4 x5 x6 x7 x8 x9 x10 fx hHeld hq
        have e1 : (⟨l[i].f0, l[i].f1⟩ : Sl) :: (l.take i).reverse = (l.take (i + 1)).reverse := by rw [List.take_succ_eq_append_getElem hi, List.reverse_append]; rfl
        rw [e1] at hq2
        clear e1
        have b_8 := chain b_7 hb
        replace hN := hN.below hb
        replace hL := hL.below hb
        replace ht := ht.below hb
        replace hT := hT.below hb
        replace br := chain br hb
        clear b_7
        clear hb
        have ou : Okv (fv (l.take (i + 1)).reverse s) := okv_fv (fun y hy => ol y (List.mem_of_mem_take (List.mem_reverse.1 hy))) s
        have hw1 : IntKind.i64.wrap ((i : Int) + 1) = (i : Int) + 1 := IntWalk.i64_in _ (by omega)
        have hw2 : wrap64 ((i : Int) + 1) = (i : Int) + 1 := wrap_ok (by omega) (by omega)
        have i2 : (i : Int) + 1 ≤ (d : Int) := by have := hL.2; omega
        have i3 : (0 : Int) ≤ (i : Int) + 1 := by omega
        have i4 : ((i : Int) + 1).toNat = i + 1 := by omega
        have hlr : (l.take (i + 1)).reverse.length = i + 1 := by simp; omega
        go_wp2_with fail
        refine (find_c2 s hq2 (by rw [hlr]; omega)).mono ?_
        rintro e_ w3 ⟨U6, u6, U7, u7, U8, u8, rfl, hU, hb⟩
        have b_9 := chain b_8 hb
        replace hN := hN.below hb
        replace hL := hL.below hb
        replace ht := ht.below hb
        replace hT := hT.below hb
        replace br := chain br hb
        replace hq2 := hq2.below hb
        clear b_8
        clear hb
        have kU := blk_new w3 (.cells (vcells (fv (l.take (i + 1)).reverse s) U6 u6 U7 u7 U8 u8) 52)
        have hb := below_alloc1 w3 (.cells (vcells (fv (l.take (i + 1)).reverse s) U6 u6 U7 u7 U8 u8) 52)
        have b_10 := chain b_9 hb
        replace hN := hN.below hb
        replace hL := hL.below hb
        replace ht := ht.below hb
        replace hT := hT.below hb
        replace br := chain br hb
        replace hq2 := hq2.below hb
        replace hU := hU.below hb
        clear b_9
        clear hb
        obtain ⟨⟨Uc0, Uc1, Uc2, Uc3, Uc4, Uc5, Uc6, Uc7, Uc8, Uc9⟩, ⟨Uf0, Uf1, Uf2, Uf3, Uf4, Uf5, Uf6, Uf7, Uf8, Uf9⟩, Ul⟩ := ten kU
        go_wp2_with fail
        refine (rfind_take s hlt (i + 1) hi hL).mono ?_
        rintro e_ w4 ⟨H6, h6, H7, h7, H8, h8, rfl, hH, hb⟩
        clear Uc0 Uc1 Uc2 Uc3 Uc4 Uc5 Uc6 Uc7 Uc8 Uc9 Uf0 Uf1 Uf2 Uf3 Uf4 Uf5 Uf6 Uf7 Uf8 Uf9 Ul
        have b_11 := chain b_10 hb
        replace kU := blk_below kU hb
        replace hN := hN.below hb
        replace hL := hL.below hb
        replace ht := ht.below hb
        replace hT := hT.below hb
        replace br := chain br hb
        replace hq2 := hq2.below hb
        replace hU := hU.below hb
        clear b_10
        clear hb
        have kH := blk_new w4 (.cells (vcells (fv (l.take (i + 1)).reverse s) H6 h6 H7 h7 H8 h8) 52)
        have hb := below_alloc1 w4 (.cells (vcells (fv (l.take (i + 1)).reverse s) H6 h6 H7 h7 H8 h8) 52)
        have b_12 := chain b_11 hb
        replace kU := blk_below kU hb
        replace hN := hN.below hb
        replace hL := hL.below hb
        replace ht := ht.below hb
        replace hT := hT.below hb
        replace br := chain br hb
        replace hq2 := hq2.below hb
        replace hU := hU.below hb
        replace hH := hH.below hb
        clear b_11
        clear hb
        generalize fv (l.take (i + 1)).reverse s = vu at *
        generalize fb (l.take (i + 1)).reverse s = bu at *
        obtain ⟨⟨Uc0, Uc1, Uc2, Uc3, Uc4, Uc5, Uc6, Uc7, Uc8, Uc9⟩, ⟨Uf0, Uf1, Uf2, Uf3, Uf4, Uf5, Uf6, Uf7, Uf8, Uf9⟩, Ul⟩ := ten kU
        obtain ⟨⟨Hc0, Hc1, Hc2, Hc3, Hc4, Hc5, Hc6, Hc7, Hc8, Hc9⟩, ⟨Hf0, Hf1, Hf2, Hf3, Hf4, Hf5, Hf6, Hf7, Hf8, Hf9⟩, Hl⟩ := ten kH
        go_wp2_with fail
        refine (saysV ou _ _ _ _ _ _ _ _ _ _ _ _ _ hU hH).mono ?_
        rintro e_ w_ ⟨rfl, hb⟩
        clear Uc0 Uc1 Uc2 Uc3 Uc4 Uc5 Uc6 Uc7 Uc8 Uc9 Uf0 Uf1 Uf2 Uf3 Uf4 Uf5 Uf6 Uf7 Uf8 Uf9 Ul Hc0 Hc1 Hc2 Hc3 Hc4 Hc5 Hc6 Hc7 Hc8 Hc9 Hf0 Hf1 Hf2 Hf3 Hf4 Hf5 Hf6 Hf7 Hf8 Hf9 Hl
        have b_13 := chain b_12 hb
        replace kU := blk_below kU hb
        replace kH := blk_below kH hb
        replace hN := hN.below hb
        replace hL := hL.below hb
        replace ht := ht.below hb
        replace hT := hT.below hb
        replace br := chain br hb
        replace hq2 := hq2.below hb
        replace hU := hU.below hb
        replace hH := hH.below hb
        clear b_12
        clear hb
        have hbb : (bu != bu) = false := by cases bu <;> rfl
        obtain ⟨⟨Uc0, Uc1, Uc2, Uc3, Uc4, Uc5, Uc6, Uc7, Uc8, Uc9⟩, ⟨Uf0, Uf1, Uf2, Uf3, Uf4, Uf5, Uf6, Uf7, Uf8, Uf9⟩, Ul⟩ := ten kU
        obtain ⟨⟨Hc0, Hc1, Hc2, Hc3, Hc4, Hc5, Hc6, Hc7, Hc8, Hc9⟩, ⟨Hf0, Hf1, Hf2, Hf3, Hf4, Hf5, Hf6, Hf7, Hf8, Hf9⟩, Hl⟩ := ten kH
        go_wp2_with fail
        refine (len_n hq2 ((i : Int) + 1) (by rw [hlr]; rfl)).mono ?_
        rintro e_ w_ ⟨rfl, rfl⟩
        go_wp2
        go_roundg k1
        case measure => omega
        case rel => exact ⟨i + 1, q2, rfl, (by first | rfl | (rw [wrap_up (by omega)])), by have := HK.out; omega, hq2, br⟩
      have cn : decide ((i : Int) < (l.length : Int)) = false := decide_eq_false (by omega)
      have e0 : l.take i = l := List.take_of_length_le (by omega)
      rw [e0] at hq
      have cn2 : decide (i < l.length) = false := decide_eq_false hi
      clear e0 hk
      clear br
      go_wp2_with fail
      generalize wr = wq at hN hL ht hT hq b_7 ⊢
      clear hi cn cn2
      go_loopg [17, 18] t.length (fun kq v17 v18 w' => ∃ (i : Nat) (v : Value), v17 = v ∧ v18 = .int .i64 i ∧ kq + i = t.length ∧ Kd.N kTy 31 w' wq.heap.size (fun _ => True) v ((t.take i).map (fun x => x.f1)) ∧ Below wq.heap.size wq w')
      case atStart => exact ⟨0, .slice none 0 0, rfl, rfl, rfl, Kd.N_nil _ _ _ _ _, Below.refl _ _⟩
      case round =>
        obtain ⟨i, v, rfl, rfl, hk, HO, br⟩ := hrel
        obtain ⟨Av, cv, rfl⟩ := Kd.N_slice HO
        have hle : i ≤ t.length := by omega
        have HLN : Aside0 (((t.take i).map (fun x => x.f1)).length = i) := ⟨by rw [List.length_map, List.length_take]; omega⟩
        generalize hLa : (t.take i).map (fun x => x.f1) = La at HO HLN ⊢
        by_cases hi : i < t.length
        · obtain ⟨k1, rfl⟩ : ∃ k1, gk = k1 + 1 := ⟨gk - 1, by omega⟩
          have ci : decide ((i : Int) < (t.length : Int)) = true := decide_eq_true (by omega)
          have i0 : (0 : Int) ≤ (i : Int) := by omega
          have i1 : (i : Int) < (t.length : Int) := by omega
          obtain ⟨ad, X3, e3, X4, e4, hA, hr, y1, y2, y3, y4, y5⟩ := belt ht.1 i hi
          subst hA
          have fk := (hr.ft.below br).fk
          have x1 := cell_up br y1
          have x2 := cell_up br y2
          have x3 := cell_up br y3
          have x4 := cell_up br y4
          have x5 := cell_up br y5
          have hbs := Kd.N_base HO
          have hokp : ∀ k, (fun k => k < wq.heap.size) k → (fun _ : Nat => True) k ∧ some k ≠ (Value.slice Av La.length cv).ownBlock := fun k hk => ⟨trivial, fun he => by have h1 := hbs k he.symm; have h2 : k < wq.heap.size := hk; omega⟩
          have hfre : ∀ k, wr.heap.size ≤ k → (fun _ : Nat => True) k := fun _ _ => trivial
          have hln : (La.length + 1) * 80 ≤ 140737488355328 := by have := HLN.out; omega
          have hlen : (La ++ [t[i].f1]).length = i + 1 := by rw [List.length_append, HLN.out]; rfl
          have HK := Aside0.mk hk
          have HY := Aside0.mk (And.intro y1 (And.intro y2 (And.intro y3 (And.intro y4 y5))))
          have HL1 := Aside0.mk hLa
          have o := ot _ (List.getElem_mem hi)
          clear hk y1 y2 y3 y4 y5 hLa hbs
          go_wp2_with (first | (at_builtin; refine Kd.N_append kTy (w0 := wq) wq.heap.size rfl (.tmp 95) (.tmp 101) 29 31 (.agg #[(.int .i64 0), (.int .i64 0), (.string ⟨#[]⟩), (.slice none 0 0), (.slice none 0 0)]) 80 rfl Try.underlying29 info31 rfl (by decide) (by omega) (.slice Av La.length cv) La _ _ (fun _ : Nat => True) (fun k => k < wq.heap.size) rfl rfl fk hokp hfre HO br br.size hln ?_; intro v1 w1 hN1 hB1 hg1 hat1; obtain ⟨A1, c1, rfl⟩ := Kd.N_slice hN1; clear x1 x2 x3 x4 x5; obtain ⟨x1, x2, x3, x4, x5⟩ := HY.out; replace x1 := cell_up hB1 x1; replace x2 := cell_up hB1 x2; replace x3 := cell_up hB1 x3; replace x4 := cell_up hB1 x4; replace x5 := cell_up hB1 x5; rw [hlen] at hN1 ⊢))
          clear HY fk hokp hfre hln hlen HO
          have b_14 := chain b_7 hB1
          replace hN := hN.below hB1
          replace hL := hL.below hB1
          replace ht := ht.below hB1
          replace hT := hT.below hB1
          replace hq := hq.below hB1
          replace hr := hr.below hB1
          clear b_7
          have os := (sealT_both names b H20.out o).2.2
          obtain ⟨ks, es⟩ := same_told os (sealT names b t[i].f1)
          rw [same_refl] at es
          refine wp_region_held_drew (S := (fun w' => Below w1.heap.size w1 w' ∧ w'.cell? ⟨(ad.add (i * 6)).block, (ad.add (i * 6)).off + 1, none⟩ = some (.int .i64 t[i].f1.f0) ∧ w'.cell? ⟨(ad.add (i * 6)).block, (ad.add (i * 6)).off + 2, none⟩ = some (.int .i64 t[i].f1.f1) ∧ w'.cell? ⟨(ad.add (i * 6)).block, (ad.add (i * 6)).off + 3, none⟩ = some (.string t[i].f1.f2) ∧ w'.cell? ⟨(ad.add (i * 6)).block, (ad.add (i * 6)).off + 4, none⟩ = some (.slice X3 t[i].f1.f3.length e3) ∧ w'.cell? ⟨(ad.add (i * 6)).block, (ad.add (i * 6)).off + 5, none⟩ = some (.slice X4 t[i].f1.f4.length e4))) (by kernel_rfl) ?_ (fun hHeld => ?_)
          · (try dsimp only)
            ((refine and_of (fun hB_ => ⟨cell_up hB_ x1, cell_up hB_ x2, cell_up hB_ x3, cell_up hB_ x4, cell_up hB_ x5⟩) ?_; first | (with_reducible exact (Below.refl _ _).drew) | (with_reducible exact below_call' (And.left (by assumption)) (by assumption)) | (with_reducible exact And.left (by assumption))))
          (first | (refine take_held (i := 0) (d := (some 103)) (v := ?_) rfl rfl (by kernel_rfl) (by kernel_rfl) (by kernel_rfl) (fun _ _ _ h => h) (Or.inl ⟨by rfl, ?_⟩) (by assumption) ?_; rotate_left 1; focus ((intro w hSw; (try dsimp only at hSw); first | (go_simp; done) | (go_simp; with_reducible rfl)); done); (try simp only [Act.put, List.setIfInBounds_toArray, List.set_cons_zero, List.set_cons_succ])))
          (try simp only [Act.put, List.setIfInBounds_toArray, List.set_cons_zero, List.set_cons_succ])
          (first | (refine take_held (i := 1) (d := (some 104)) (v := ?_) rfl rfl (by kernel_rfl) (by kernel_rfl) (by kernel_rfl) (fun _ _ _ h => h) (Or.inl ⟨by rfl, ?_⟩) (by assumption) ?_; rotate_left 1; focus ((intro w hSw; (try dsimp only at hSw); first | (go_simp; done) | (go_simp; with_reducible rfl)); done); (try simp only [Act.put, List.setIfInBounds_toArray, List.set_cons_zero, List.set_cons_succ])))
          (try simp only [Act.put, List.setIfInBounds_toArray, List.set_cons_zero, List.set_cons_succ])
          (first | (refine take_held (i := 2) (d := (some 105)) (v := ?_) rfl rfl (by kernel_rfl) (by kernel_rfl) (by kernel_rfl) (fun _ _ _ h => h) (Or.inl ⟨by rfl, ?_⟩) (by assumption) ?_; rotate_left 1; focus ((intro w hSw; (try dsimp only at hSw); first | (go_simp; done) | (go_simp; with_reducible rfl)); done); (try simp only [Act.put, List.setIfInBounds_toArray, List.set_cons_zero, List.set_cons_succ])))
          (try simp only [Act.put, List.setIfInBounds_toArray, List.set_cons_zero, List.set_cons_succ])
          (first | (refine take_held (i := 3) (d := (some 106)) (v := ?_) rfl rfl (by kernel_rfl) (by kernel_rfl) (by kernel_rfl) (fun _ _ _ h => h) (Or.inl ⟨by rfl, ?_⟩) (by assumption) ?_; rotate_left 1; focus ((intro w hSw; (try dsimp only at hSw); first | (go_simp; done) | (go_simp; with_reducible rfl)); done); (try simp only [Act.put, List.setIfInBounds_toArray, List.set_cons_zero, List.set_cons_succ])))
          (try simp only [Act.put, List.setIfInBounds_toArray, List.set_cons_zero, List.set_cons_succ])
          (first | (refine take_held (i := 4) (d := (some 107)) (v := ?_) rfl rfl (by kernel_rfl) (by kernel_rfl) (by kernel_rfl) (fun _ _ _ h => h) (Or.inl ⟨by rfl, ?_⟩) (by assumption) ?_; rotate_left 1; focus ((intro w hSw; (try dsimp only at hSw); first | (go_simp; done) | (go_simp; with_reducible rfl)); done); (try simp only [Act.put, List.setIfInBounds_toArray, List.set_cons_zero, List.set_cons_succ])))
          (try simp only [Act.put, List.setIfInBounds_toArray, List.set_cons_zero, List.set_cons_succ])
          (first | (refine take_held (i := 5) (d := (some 108)) (v := ?_) rfl rfl (by kernel_rfl) (by kernel_rfl) (by kernel_rfl) (fun _ _ _ h => h) (Or.inl ⟨by rfl, ?_⟩) (by assumption) ?_; rotate_left 1; focus ((intro w hSw; (try dsimp only at hSw); first | (go_simp; done) | (go_simp; with_reducible rfl)); done); (try simp only [Act.put, List.setIfInBounds_toArray, List.set_cons_zero, List.set_cons_succ])))
          (try simp only [Act.put, List.setIfInBounds_toArray, List.set_cons_zero, List.set_cons_succ])
          (first | (refine take_held (i := 7) (d := (some 110)) (v := ?_) rfl rfl (by kernel_rfl) (by kernel_rfl) (by kernel_rfl) (fun _ _ _ h => h) (Or.inl ⟨by rfl, ?_⟩) (by assumption) ?_; rotate_left 1; focus ((intro w hSw; (try dsimp only at hSw); first | (go_simp; done) | (go_simp; with_reducible rfl)); done); (try simp only [Act.put, List.setIfInBounds_toArray, List.set_cons_zero, List.set_cons_succ])))
          (try simp only [Act.put, List.setIfInBounds_toArray, List.set_cons_zero, List.set_cons_succ])
          (first | (refine take_held (i := 8) (d := (some 111)) (v := ?_) rfl rfl (by kernel_rfl) (by kernel_rfl) (by kernel_rfl) (fun _ _ _ h => h) (Or.inl ⟨by rfl, ?_⟩) (by assumption) ?_; rotate_left 1; focus ((intro w hSw; (try dsimp only at hSw); first | (go_simp; done) | (go_simp; with_reducible rfl)); done); (try simp only [Act.put, List.setIfInBounds_toArray, List.set_cons_zero, List.set_cons_succ])))
          (try simp only [Act.put, List.setIfInBounds_toArray, List.set_cons_zero, List.set_cons_succ])
          (first | (refine take_held (i := 9) (d := (some 112)) (v := ?_) rfl rfl (by kernel_rfl) (by kernel_rfl) (by kernel_rfl) (fun _ _ _ h => h) (Or.inl ⟨by rfl, ?_⟩) (by assumption) ?_; rotate_left 1; focus ((intro w hSw; (try dsimp only at hSw); first | (go_simp; done) | (go_simp; with_reducible rfl)); done); (try simp only [Act.put, List.setIfInBounds_toArray, List.set_cons_zero, List.set_cons_succ])))
          (try simp only [Act.put, List.setIfInBounds_toArray, List.set_cons_zero, List.set_cons_succ])
          (first | (refine take_held (i := 10) (d := (some 113)) (v := ?_) rfl rfl (by kernel_rfl) (by kernel_rfl) (by kernel_rfl) (fun _ _ _ h => h) (Or.inl ⟨by rfl, ?_⟩) (by assumption) ?_; rotate_left 1; focus ((intro w hSw; (try dsimp only at hSw); first | (go_simp; done) | (go_simp; with_reducible rfl)); done); (try simp only [Act.put, List.setIfInBounds_toArray, List.set_cons_zero, List.set_cons_succ])))
          (try simp only [Act.put, List.setIfInBounds_toArray, List.set_cons_zero, List.set_cons_succ])
          (first | (refine take_held (i := 11) (d := (some 114)) (v := ?_) rfl rfl (by kernel_rfl) (by kernel_rfl) (by kernel_rfl) (fun _ _ _ h => h) (Or.inl ⟨by rfl, ?_⟩) (by assumption) ?_; rotate_left 1; focus ((intro w hSw; (try dsimp only at hSw); first | (go_simp; done) | (go_simp; with_reducible rfl)); done); (try simp only [Act.put, List.setIfInBounds_toArray, List.set_cons_zero, List.set_cons_succ])))
          (try simp only [Act.put, List.setIfInBounds_toArray, List.set_cons_zero, List.set_cons_succ])
          (first | (refine take_held (i := 12) (d := (some 115)) (v := ?_) rfl rfl (by kernel_rfl) (by kernel_rfl) (by kernel_rfl) (fun _ _ _ h => h) (Or.inl ⟨by rfl, ?_⟩) (by assumption) ?_; rotate_left 1; focus ((intro w hSw; (try dsimp only at hSw); first | (go_simp; done) | (go_simp; with_reducible rfl)); done); (try simp only [Act.put, List.setIfInBounds_toArray, List.set_cons_zero, List.set_cons_succ])))
          (try simp only [Act.put, List.setIfInBounds_toArray, List.set_cons_zero, List.set_cons_succ])
          (first | (refine take_held (i := 13) (d := (some 116)) (v := ?_) rfl rfl (by kernel_rfl) (by kernel_rfl) (by kernel_rfl) (fun _ _ _ h => h) (Or.inl ⟨by rfl, ?_⟩) (by assumption) ?_; rotate_left 1; focus ((intro w hSw; (try dsimp only at hSw); first | (go_simp; done) | (go_simp; with_reducible rfl)); done); (try simp only [Act.put, List.setIfInBounds_toArray, List.set_cons_zero, List.set_cons_succ])))
          (try simp only [Act.put, List.setIfInBounds_toArray, List.set_cons_zero, List.set_cons_succ])
          (first
            | (refine wpAnyH_ready (rs := [6]) (by kernel_rfl) (by simp) ?_; refine AllReadyH.cons (o := _) rfl (fun K hK => ?_) AllReadyH.nil; go_simp; (go_at_call 29; refine (eclose_c names b H20.out o (hq.below (And.left hHeld)) (hT.below (And.left hHeld)) (hr.below (And.left hHeld))).mono ?_; rintro e_ wA ⟨C3, g3, C4, g4, rfl, hc, hbA⟩); (try go_wp2_with fail); refine hK.out _ _ (by (try dsimp only); ((refine and_of (fun hB_ => ⟨cell_up hB_ x1, cell_up hB_ x2, cell_up hB_ x3, cell_up hB_ x4, cell_up hB_ x5⟩) ?_; first | (with_reducible exact (Below.refl _ _).drew) | (with_reducible exact below_call' (And.left hHeld) hbA) | (with_reducible exact And.left (by assumption))))) ?_; clear hHeld hK K; intro hHeld; (try simp only [Act.put, List.setIfInBounds_toArray, List.set_cons_zero, List.set_cons_succ])))
          (first
            | (refine wpAnyH_ready (rs := [14]) (by kernel_rfl) (by simp) ?_; refine AllReadyH.cons (o := _) rfl (fun K hK => ?_) AllReadyH.nil; go_simp; (go_at_call 33; refine (rseal_c names b H20.out o (hN.below (And.left hHeld)) (hr.below (And.left hHeld))).mono ?_; rintro e_ wB ⟨D3, j3, D4, j4, rfl, hd, hbB⟩); (try go_wp2_with fail); refine hK.out _ _ (by (try dsimp only); ((refine and_of (fun hB_ => ⟨cell_up hB_ x1, cell_up hB_ x2, cell_up hB_ x3, cell_up hB_ x4, cell_up hB_ x5⟩) ?_; first | (with_reducible exact (Below.refl _ _).drew) | (with_reducible exact below_call' (And.left hHeld) hbB) | (with_reducible exact And.left (by assumption))))) ?_; clear hHeld hK K; intro hHeld; (try simp only [Act.put, List.setIfInBounds_toArray, List.set_cons_zero, List.set_cons_succ])))
          (first
            | (refine wpAnyH_ready (rs := [15]) (by kernel_rfl) (by simp) ?_; refine AllReadyH.cons (o := _) rfl (fun K hK => ?_) AllReadyH.nil; go_simp; (go_at_call 16; refine (rsame_c _ _ ks true es (hc.below hbB) hd).mono ?_; rintro e_ wC ⟨rfl, hbC⟩); (try go_wp2_with fail); refine hK.out _ _ (by (try dsimp only); ((refine and_of (fun hB_ => ⟨cell_up hB_ x1, cell_up hB_ x2, cell_up hB_ x3, cell_up hB_ x4, cell_up hB_ x5⟩) ?_; first | (with_reducible exact (Below.refl _ _).drew) | (with_reducible exact below_call' (And.left hHeld) hbC) | (with_reducible exact And.left (by assumption))))) ?_; clear hHeld hK K; intro hHeld; (try simp only [Act.put, List.setIfInBounds_toArray, List.set_cons_zero, List.set_cons_succ])))
          (first | (refine take_held (i := 16) (d := (some 119)) (v := ?_) rfl rfl (by kernel_rfl) (by kernel_rfl) (by kernel_rfl) (fun _ _ _ h => h) (Or.inl ⟨by rfl, ?_⟩) (by assumption) ?_; rotate_left 1; focus ((intro w hSw; (try dsimp only at hSw); first | (go_simp; done) | (go_simp; with_reducible rfl)); done); (try simp only [Act.put, List.setIfInBounds_toArray, List.set_cons_zero, List.set_cons_succ])))
          (try simp only [Act.put, List.setIfInBounds_toArray, List.set_cons_zero, List.set_cons_succ])
          (try simp only [Act.put, List.setIfInBounds_toArray, List.set_cons_zero, List.set_cons_succ])
          refine wpAnyH_done (by kernel_rfl) ?_ _
          have hb := And.left hHeld
          have hNe := Kd.N_below hN1 hb
          have hBe := chain hB1 hb
          clear x1 x2 x3 x4 x5 hHeld hc hd os es
          have hw2 : wrap64 ((i : Int) + 1) = (i : Int) + 1 := wrap_ok (by omega) (by omega)
          go_wp2
          go_roundg k1
          case measure => omega
          case rel => exact ⟨i + 1, .slice A1 (i + 1) c1, rfl, (by first | rfl | (simp; done) | (push_cast; rfl)), by have := HK.out; omega, (by rw [List.take_succ_eq_append_getElem hi, List.map_append, HL1.out]; exact hNe), hBe⟩
        have cn : decide ((i : Int) < (t.length : Int)) = false := decide_eq_false (by omega)
        have cn2 : decide (i < t.length) = false := decide_eq_false hi
        rw [List.take_of_length_le (by omega)] at hLa
        have hLm : RL wr Av cv La := ⟨(Kd.N_reads' HO).2.2, (Kd.N_reads' HO).2.1⟩
        have om : ∀ y, y ∈ La → Okt y := by rw [← hLa]; intro y hy; obtain ⟨x, hx, rfl⟩ := List.mem_map.1 hy; exact ot x hx
        have hm80 : La.length * 80 ≤ 140737488351232 := by rw [← hLa, List.length_map]; omega
        have os : ∀ y, y ∈ La.map (sealT names b) → Okt y := by intro y hy; obtain ⟨x, hx, rfl⟩ := List.mem_map.1 hy; exact (sealT_both names b H20.out (om x hx)).2.2
        have hs80 : (La.map (sealT names b)).length * 80 ≤ 140737488351232 := by rw [List.length_map]; exact hm80
        have HLN2 : Aside0 (La.length = t.length) := ⟨by rw [← hLa, List.length_map]⟩
        clear hLa hle HO hk HLN
        have b_15 := chain b_7 br
        replace hN := hN.below br
        replace hL := hL.below br
        replace ht := ht.below br
        replace hT := hT.below br
        replace hq := hq.below br
        clear b_7
        clear br
        have ou : Okv (fv l.reverse s) := okv_fv (fun y hy => ol y (List.mem_reverse.1 hy)) s
        go_wp2_with fail
        refine (find_c2 s hq (by simp; omega)).mono ?_
        rintro e_ w3 ⟨U6, u6, U7, u7, U8, u8, rfl, hU, hb⟩
        have b_16 := chain b_15 hb
        replace hN := hN.below hb
        replace hL := hL.below hb
        replace ht := ht.below hb
        replace hT := hT.below hb
        replace hq := hq.below hb
        replace hLm := hLm.below hb
        clear b_15
        clear hb
        have kU := blk_new w3 (.cells (vcells (fv l.reverse s) U6 u6 U7 u7 U8 u8) 52)
        have hb := below_alloc1 w3 (.cells (vcells (fv l.reverse s) U6 u6 U7 u7 U8 u8) 52)
        have b_17 := chain b_16 hb
        replace hN := hN.below hb
        replace hL := hL.below hb
        replace ht := ht.below hb
        replace hT := hT.below hb
        replace hq := hq.below hb
        replace hLm := hLm.below hb
        replace hU := hU.below hb
        clear b_16
        clear hb
        obtain ⟨⟨Uc0, Uc1, Uc2, Uc3, Uc4, Uc5, Uc6, Uc7, Uc8, Uc9⟩, ⟨Uf0, Uf1, Uf2, Uf3, Uf4, Uf5, Uf6, Uf7, Uf8, Uf9⟩, Ul⟩ := ten kU
        go_wp2_with fail
        refine (rfind_c s hlt hL).mono ?_
        rintro e_ w4 ⟨H6, h6, H7, h7, H8, h8, rfl, hH, hb⟩
        clear Uc0 Uc1 Uc2 Uc3 Uc4 Uc5 Uc6 Uc7 Uc8 Uc9 Uf0 Uf1 Uf2 Uf3 Uf4 Uf5 Uf6 Uf7 Uf8 Uf9 Ul
        have b_18 := chain b_17 hb
        replace kU := blk_below kU hb
        replace hN := hN.below hb
        replace hL := hL.below hb
        replace ht := ht.below hb
        replace hT := hT.below hb
        replace hq := hq.below hb
        replace hLm := hLm.below hb
        replace hU := hU.below hb
        clear b_17
        clear hb
        have kH := blk_new w4 (.cells (vcells (fv l.reverse s) H6 h6 H7 h7 H8 h8) 52)
        have hb := below_alloc1 w4 (.cells (vcells (fv l.reverse s) H6 h6 H7 h7 H8 h8) 52)
        have b_19 := chain b_18 hb
        replace kU := blk_below kU hb
        replace hN := hN.below hb
        replace hL := hL.below hb
        replace ht := ht.below hb
        replace hT := hT.below hb
        replace hq := hq.below hb
        replace hLm := hLm.below hb
        replace hU := hU.below hb
        replace hH := hH.below hb
        clear b_18
        clear hb
        generalize fv l.reverse s = vu at *
        generalize fb l.reverse s = bu at *
        obtain ⟨⟨Uc0, Uc1, Uc2, Uc3, Uc4, Uc5, Uc6, Uc7, Uc8, Uc9⟩, ⟨Uf0, Uf1, Uf2, Uf3, Uf4, Uf5, Uf6, Uf7, Uf8, Uf9⟩, Ul⟩ := ten kU
        obtain ⟨⟨Hc0, Hc1, Hc2, Hc3, Hc4, Hc5, Hc6, Hc7, Hc8, Hc9⟩, ⟨Hf0, Hf1, Hf2, Hf3, Hf4, Hf5, Hf6, Hf7, Hf8, Hf9⟩, Hl⟩ := ten kH
        go_wp2_with fail
        refine (saysV ou _ _ _ _ _ _ _ _ _ _ _ _ _ hU hH).mono ?_
        rintro e_ w_ ⟨rfl, hb⟩
        clear Uc0 Uc1 Uc2 Uc3 Uc4 Uc5 Uc6 Uc7 Uc8 Uc9 Uf0 Uf1 Uf2 Uf3 Uf4 Uf5 Uf6 Uf7 Uf8 Uf9 Ul Hc0 Hc1 Hc2 Hc3 Hc4 Hc5 Hc6 Hc7 Hc8 Hc9 Hf0 Hf1 Hf2 Hf3 Hf4 Hf5 Hf6 Hf7 Hf8 Hf9 Hl
        have b_20 := chain b_19 hb
        replace kU := blk_below kU hb
        replace kH := blk_below kH hb
        replace hN := hN.below hb
        replace hL := hL.below hb
        replace ht := ht.below hb
        replace hT := hT.below hb
        replace hq := hq.below hb
        replace hLm := hLm.below hb
        replace hU := hU.below hb
        replace hH := hH.below hb
        clear b_19
        clear hb
        have hbb : (bu == bu) = true := by cases bu <;> rfl
        obtain ⟨⟨Uc0, Uc1, Uc2, Uc3, Uc4, Uc5, Uc6, Uc7, Uc8, Uc9⟩, ⟨Uf0, Uf1, Uf2, Uf3, Uf4, Uf5, Uf6, Uf7, Uf8, Uf9⟩, Ul⟩ := ten kU
        obtain ⟨⟨Hc0, Hc1, Hc2, Hc3, Hc4, Hc5, Hc6, Hc7, Hc8, Hc9⟩, ⟨Hf0, Hf1, Hf2, Hf3, Hf4, Hf5, Hf6, Hf7, Hf8, Hf9⟩, Hl⟩ := ten kH
        go_wp2_with fail
        refine (eall_c names b H20.out hm80 om hq hT hLm).mono ?_
        rintro e_ w_ ⟨Q1, q1, rfl, hQ, hb⟩
        clear Uc0 Uc1 Uc2 Uc3 Uc4 Uc5 Uc6 Uc7 Uc8 Uc9 Uf0 Uf1 Uf2 Uf3 Uf4 Uf5 Uf6 Uf7 Uf8 Uf9 Ul Hc0 Hc1 Hc2 Hc3 Hc4 Hc5 Hc6 Hc7 Hc8 Hc9 Hf0 Hf1 Hf2 Hf3 Hf4 Hf5 Hf6 Hf7 Hf8 Hf9 Hl
        have b_21 := chain b_20 hb
        replace kU := blk_below kU hb
        replace kH := blk_below kH hb
        replace hN := hN.below hb
        replace hL := hL.below hb
        replace ht := ht.below hb
        replace hT := hT.below hb
        replace hq := hq.below hb
        replace hLm := hLm.below hb
        replace hU := hU.below hb
        replace hH := hH.below hb
        clear b_20
        clear hb
        obtain ⟨⟨Uc0, Uc1, Uc2, Uc3, Uc4, Uc5, Uc6, Uc7, Uc8, Uc9⟩, ⟨Uf0, Uf1, Uf2, Uf3, Uf4, Uf5, Uf6, Uf7, Uf8, Uf9⟩, Ul⟩ := ten kU
        obtain ⟨⟨Hc0, Hc1, Hc2, Hc3, Hc4, Hc5, Hc6, Hc7, Hc8, Hc9⟩, ⟨Hf0, Hf1, Hf2, Hf3, Hf4, Hf5, Hf6, Hf7, Hf8, Hf9⟩, Hl⟩ := ten kH
        go_wp2_with fail
        refine (rall_c names b H20.out hm80 om hN hLm).mono ?_
        rintro e_ w_ ⟨Q2, q2, rfl, hP, hb⟩
        clear Uc0 Uc1 Uc2 Uc3 Uc4 Uc5 Uc6 Uc7 Uc8 Uc9 Uf0 Uf1 Uf2 Uf3 Uf4 Uf5 Uf6 Uf7 Uf8 Uf9 Ul Hc0 Hc1 Hc2 Hc3 Hc4 Hc5 Hc6 Hc7 Hc8 Hc9 Hf0 Hf1 Hf2 Hf3 Hf4 Hf5 Hf6 Hf7 Hf8 Hf9 Hl
        have b_22 := chain b_21 hb
        replace kU := blk_below kU hb
        replace kH := blk_below kH hb
        replace hN := hN.below hb
        replace hL := hL.below hb
        replace ht := ht.below hb
        replace hT := hT.below hb
        replace hq := hq.below hb
        replace hLm := hLm.below hb
        replace hU := hU.below hb
        replace hH := hH.below hb
        replace hQ := hQ.below hb
        clear b_21
        clear hb
        obtain ⟨⟨Uc0, Uc1, Uc2, Uc3, Uc4, Uc5, Uc6, Uc7, Uc8, Uc9⟩, ⟨Uf0, Uf1, Uf2, Uf3, Uf4, Uf5, Uf6, Uf7, Uf8, Uf9⟩, Ul⟩ := ten kU
        obtain ⟨⟨Hc0, Hc1, Hc2, Hc3, Hc4, Hc5, Hc6, Hc7, Hc8, Hc9⟩, ⟨Hf0, Hf1, Hf2, Hf3, Hf4, Hf5, Hf6, Hf7, Hf8, Hf9⟩, Hl⟩ := ten kH
        go_wp2_with fail
        first | (with_reducible refine (sall_n hs80 os (List.length_map _) hQ hP).mono ?_) | (with_reducible refine (sall_c hs80 os hQ hP).mono ?_)
        rintro e_ w_ ⟨rfl, hb⟩
        clear Uc0 Uc1 Uc2 Uc3 Uc4 Uc5 Uc6 Uc7 Uc8 Uc9 Uf0 Uf1 Uf2 Uf3 Uf4 Uf5 Uf6 Uf7 Uf8 Uf9 Ul Hc0 Hc1 Hc2 Hc3 Hc4 Hc5 Hc6 Hc7 Hc8 Hc9 Hf0 Hf1 Hf2 Hf3 Hf4 Hf5 Hf6 Hf7 Hf8 Hf9 Hl
        have b_23 := chain b_22 hb
        replace kU := blk_below kU hb
        replace kH := blk_below kH hb
        replace hN := hN.below hb
        replace hL := hL.below hb
        replace ht := ht.below hb
        replace hT := hT.below hb
        replace hq := hq.below hb
        replace hLm := hLm.below hb
        replace hU := hU.below hb
        replace hH := hH.below hb
        replace hQ := hQ.below hb
        replace hP := hP.below hb
        clear b_22
        clear hb
        obtain ⟨⟨Uc0, Uc1, Uc2, Uc3, Uc4, Uc5, Uc6, Uc7, Uc8, Uc9⟩, ⟨Uf0, Uf1, Uf2, Uf3, Uf4, Uf5, Uf6, Uf7, Uf8, Uf9⟩, Ul⟩ := ten kU
        obtain ⟨⟨Hc0, Hc1, Hc2, Hc3, Hc4, Hc5, Hc6, Hc7, Hc8, Hc9⟩, ⟨Hf0, Hf1, Hf2, Hf3, Hf4, Hf5, Hf6, Hf7, Hf8, Hf9⟩, Hl⟩ := ten kH
        go_wp2_with fail
        refine (awake_c _).mono ?_
        rintro e_ w_ ⟨rfl, hb⟩
        clear Uc0 Uc1 Uc2 Uc3 Uc4 Uc5 Uc6 Uc7 Uc8 Uc9 Uf0 Uf1 Uf2 Uf3 Uf4 Uf5 Uf6 Uf7 Uf8 Uf9 Ul Hc0 Hc1 Hc2 Hc3 Hc4 Hc5 Hc6 Hc7 Hc8 Hc9 Hf0 Hf1 Hf2 Hf3 Hf4 Hf5 Hf6 Hf7 Hf8 Hf9 Hl
        have b_24 := chain b_23 hb
        replace kU := blk_below kU hb
        replace kH := blk_below kH hb
        replace hN := hN.below hb
        replace hL := hL.below hb
        replace ht := ht.below hb
        replace hT := hT.below hb
        replace hq := hq.below hb
        replace hLm := hLm.below hb
        replace hU := hU.below hb
        replace hH := hH.below hb
        replace hQ := hQ.below hb
        replace hP := hP.below hb
        clear b_23
        clear hb
        obtain ⟨⟨Uc0, Uc1, Uc2, Uc3, Uc4, Uc5, Uc6, Uc7, Uc8, Uc9⟩, ⟨Uf0, Uf1, Uf2, Uf3, Uf4, Uf5, Uf6, Uf7, Uf8, Uf9⟩, Ul⟩ := ten kU
        obtain ⟨⟨Hc0, Hc1, Hc2, Hc3, Hc4, Hc5, Hc6, Hc7, Hc8, Hc9⟩, ⟨Hf0, Hf1, Hf2, Hf3, Hf4, Hf5, Hf6, Hf7, Hf8, Hf9⟩, Hl⟩ := ten kH
        go_wp2
        go_ret
        exact ⟨rfl, b_24⟩
end Go.Proofs.Ytalmhbiedkjpmaa.PEnvPlays

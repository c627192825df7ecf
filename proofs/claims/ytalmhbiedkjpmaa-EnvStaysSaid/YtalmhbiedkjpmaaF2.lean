/-
  env: the walk of EnvStays.
-/
import Derived.Test.YtalmhbiedkjpmaaF1
import Derived.Test.YtalmhbiedkjpmaaE14
namespace Go.Proofs.Ytalmhbiedkjpmaa.PEnvPlays
open Go.RowKit Go.Proofs.YtalmhbiedkjpmaaW.Mine Go.Proofs.YtalmhbiedkjpmaaW.PrintWords Go.Proofs.YtalmhbiedkjpmaaW.PrintLast Go.Proofs.YtalmhbiedkjpmaaW.PrintMore
attribute [local go_sem] max2_int min2_int max_two min_two max_three min_three max_four min_four
set_option linter.unusedVariables false
set_option linter.unusedSimpArgs false
theorem eqText_flip (a b : ByteArray) : (a.toList == b.toList) = eqText b a := by unfold eqText; rw [Bool.eq_iff_iff]; simp only [beq_iff_eq]; exact eq_comm
set_option maxHeartbeats 4000000 in
set_option maxRecDepth 100000 in
theorem stays_c (names : List ByteArray) (b : Int) (l : List Sl) (x : Sl) (s : ByteArray) (t : Ty) (hn16 : names.length * 16 ≤ 140737488351232) (hb0 : 0 ≤ b) (hb1 : b < 256) (hl160 : l.length * 160 ≤ 140737488351232) (ol : ∀ y, y ∈ l → Okv y.f1) (ox : Okv x.f1) (ot : Okt t)
    {A B A6 A7 A8 A3 A4 : Option Addr} {c d c6 c7 c8 c3 c4 : Nat} {w : World} (hN : RN w A c names) (hL : RS w B d l) (hx : RV w x.f1 A6 c6 A7 c7 A8 c8) (ht : RT w t A3 c3 A4 c4) :
    Calls Try.prog 6 #[.slice A names.length c, .int .u8 b, .slice B l.length d, .agg (scells x A6 c6 A7 c7 A8 c8), .string s, tv t A3 c3 A4 c4] w (Yes w) := by
  obtain ⟨kl, rl, el, hrl⟩ := small_says l hl160 ol
  obtain ⟨kx, rx, ex, _⟩ := small_says [x] (by simp) (fun y hy => by obtain rfl := List.mem_singleton.1 hy; exact ox)
  obtain ⟨kt, mt, et⟩ := told ot
  obtain ⟨kX, kT, b0⟩ := box_vt w (scells x A6 c6 A7 c7 A8 c8) #[.int .i64 t.f0, .int .i64 t.f1, .string t.f2, .slice A3 t.f3.length c3, .slice A4 t.f4.length c4] 54 31
  replace hN := hN.below b0
  replace hL := hL.below b0
  replace hx := hx.below b0
  replace ht := ht.below b0
  have hw := convert_u8 b hb0 hb1
  have hlt : l.length < 4611686018427387904 := by omega
  have HRL := Aside0.mk hrl
  clear hrl
  go_enter Try.func6, Try.ntmps6
  obtain ⟨⟨Xc0, Xc1, Xc2, Xc3, Xc4, Xc5, Xc6, Xc7, Xc8, Xc9, Xc10⟩, ⟨Xf0, Xf1, Xf2, Xf3, Xf4, Xf5, Xf6, Xf7, Xf8, Xf9, Xf10⟩, Xl⟩ := eleven kX
  obtain ⟨⟨Tc0, Tc1, Tc2, Tc3, Tc4⟩, ⟨Tf0, Tf1, Tf2, Tf3, Tf4⟩, Tl⟩ := five kT
  go_wp2_with fail
  refine (small_c el hL.1 hL.2).mono ?_
  rintro e_ w1 ⟨rfl, hb⟩
  clear Xc0 Xc1 Xc2 Xc3 Xc4 Xc5 Xc6 Xc7 Xc8 Xc9 Xc10 Xf0 Xf1 Xf2 Xf3 Xf4 Xf5 Xf6 Xf7 Xf8 Xf9 Xf10 Xl Tc0 Tc1 Tc2 Tc3 Tc4 Tf0 Tf1 Tf2 Tf3 Tf4 Tl
  have b_1 := chain b0 hb
  replace kX := blk_below kX hb
  replace kT := blk_below kT hb
  replace hN := hN.below hb
  replace hL := hL.below hb
  replace hx := hx.below hb
  replace ht := ht.below hb
  clear b0
  clear hb
  cases rl with
  | false =>
    obtain ⟨⟨Xc0, Xc1, Xc2, Xc3, Xc4, Xc5, Xc6, Xc7, Xc8, Xc9, Xc10⟩, ⟨Xf0, Xf1, Xf2, Xf3, Xf4, Xf5, Xf6, Xf7, Xf8, Xf9, Xf10⟩, Xl⟩ := eleven kX
    obtain ⟨⟨Tc0, Tc1, Tc2, Tc3, Tc4⟩, ⟨Tf0, Tf1, Tf2, Tf3, Tf4⟩, Tl⟩ := five kT
    go_wp2_with fail
    refine (awake_c _).mono ?_
    rintro e_ w_ ⟨rfl, hb⟩
    clear Xc0 Xc1 Xc2 Xc3 Xc4 Xc5 Xc6 Xc7 Xc8 Xc9 Xc10 Xf0 Xf1 Xf2 Xf3 Xf4 Xf5 Xf6 Xf7 Xf8 Xf9 Xf10 Xl Tc0 Tc1 Tc2 Tc3 Tc4 Tf0 Tf1 Tf2 Tf3 Tf4 Tl
    have b_2 := chain b_1 hb
    replace kX := blk_below kX hb
    replace kT := blk_below kT hb
    replace hN := hN.below hb
    replace hL := hL.below hb
    replace hx := hx.below hb
    replace ht := ht.below hb
    clear b_1
    clear hb
    obtain ⟨⟨Xc0, Xc1, Xc2, Xc3, Xc4, Xc5, Xc6, Xc7, Xc8, Xc9, Xc10⟩, ⟨Xf0, Xf1, Xf2, Xf3, Xf4, Xf5, Xf6, Xf7, Xf8, Xf9, Xf10⟩, Xl⟩ := eleven kX
    obtain ⟨⟨Tc0, Tc1, Tc2, Tc3, Tc4⟩, ⟨Tf0, Tf1, Tf2, Tf3, Tf4⟩, Tl⟩ := five kT
    go_wp2
    go_ret
    exact ⟨rfl, b_2⟩
  | true =>
    have hl50 := HRL.out rfl
    obtain ⟨⟨Xc0, Xc1, Xc2, Xc3, Xc4, Xc5, Xc6, Xc7, Xc8, Xc9, Xc10⟩, ⟨Xf0, Xf1, Xf2, Xf3, Xf4, Xf5, Xf6, Xf7, Xf8, Xf9, Xf10⟩, Xl⟩ := eleven kX
    obtain ⟨⟨Tc0, Tc1, Tc2, Tc3, Tc4⟩, ⟨Tf0, Tf1, Tf2, Tf3, Tf4⟩, Tl⟩ := five kT
    go_wp2_with fail
    have hrow := one_slot x hx
    have hb := below_alloc1 w1 (.cells (scells x A6 c6 A7 c7 A8 c8) 54)
    clear Xc0 Xc1 Xc2 Xc3 Xc4 Xc5 Xc6 Xc7 Xc8 Xc9 Xc10 Xf0 Xf1 Xf2 Xf3 Xf4 Xf5 Xf6 Xf7 Xf8 Xf9 Xf10 Xl Tc0 Tc1 Tc2 Tc3 Tc4 Tf0 Tf1 Tf2 Tf3 Tf4 Tl
    have b_3 := chain b_1 hb
    replace kX := blk_below kX hb
    replace kT := blk_below kT hb
    replace hN := hN.below hb
    replace hL := hL.below hb
    replace hx := hx.below hb
    replace ht := ht.below hb
    clear b_1
    clear hb
    refine (small_c ex hrow (Nat.le_refl _)).mono ?_
    rintro e_ w_ ⟨rfl, hb⟩
    have b_4 := chain b_3 hb
    replace kX := blk_below kX hb
    replace kT := blk_below kT hb
    replace hN := hN.below hb
    replace hL := hL.below hb
    replace hx := hx.below hb
    replace ht := ht.below hb
    clear b_3
    clear hb hrow
    cases rx with
    | false =>
      obtain ⟨⟨Xc0, Xc1, Xc2, Xc3, Xc4, Xc5, Xc6, Xc7, Xc8, Xc9, Xc10⟩, ⟨Xf0, Xf1, Xf2, Xf3, Xf4, Xf5, Xf6, Xf7, Xf8, Xf9, Xf10⟩, Xl⟩ := eleven kX
      obtain ⟨⟨Tc0, Tc1, Tc2, Tc3, Tc4⟩, ⟨Tf0, Tf1, Tf2, Tf3, Tf4⟩, Tl⟩ := five kT
      go_wp2_with fail
      refine (awake_c _).mono ?_
      rintro e_ w_ ⟨rfl, hb⟩
      clear Xc0 Xc1 Xc2 Xc3 Xc4 Xc5 Xc6 Xc7 Xc8 Xc9 Xc10 Xf0 Xf1 Xf2 Xf3 Xf4 Xf5 Xf6 Xf7 Xf8 Xf9 Xf10 Xl Tc0 Tc1 Tc2 Tc3 Tc4 Tf0 Tf1 Tf2 Tf3 Tf4 Tl
      have b_5 := chain b_4 hb
      replace kX := blk_below kX hb
      replace kT := blk_below kT hb
      replace hN := hN.below hb
      replace hL := hL.below hb
      replace hx := hx.below hb
      replace ht := ht.below hb
      clear b_4
      clear hb
      obtain ⟨⟨Xc0, Xc1, Xc2, Xc3, Xc4, Xc5, Xc6, Xc7, Xc8, Xc9, Xc10⟩, ⟨Xf0, Xf1, Xf2, Xf3, Xf4, Xf5, Xf6, Xf7, Xf8, Xf9, Xf10⟩, Xl⟩ := eleven kX
      obtain ⟨⟨Tc0, Tc1, Tc2, Tc3, Tc4⟩, ⟨Tf0, Tf1, Tf2, Tf3, Tf4⟩, Tl⟩ := five kT
      go_wp2
      go_ret
      exact ⟨rfl, b_5⟩
    | true =>
      by_cases hnm : 20 < (names.length : Int)
      · have cnm : decide (20 < (names.length : Int)) = true := decide_eq_true hnm
        have cnm2 : decide (20 < names.length) = true := decide_eq_true (by omega)
        obtain ⟨⟨Xc0, Xc1, Xc2, Xc3, Xc4, Xc5, Xc6, Xc7, Xc8, Xc9, Xc10⟩, ⟨Xf0, Xf1, Xf2, Xf3, Xf4, Xf5, Xf6, Xf7, Xf8, Xf9, Xf10⟩, Xl⟩ := eleven kX
        obtain ⟨⟨Tc0, Tc1, Tc2, Tc3, Tc4⟩, ⟨Tf0, Tf1, Tf2, Tf3, Tf4⟩, Tl⟩ := five kT
        go_wp2_with fail
        refine (awake_c _).mono ?_
        rintro e_ w_ ⟨rfl, hb⟩
        clear Xc0 Xc1 Xc2 Xc3 Xc4 Xc5 Xc6 Xc7 Xc8 Xc9 Xc10 Xf0 Xf1 Xf2 Xf3 Xf4 Xf5 Xf6 Xf7 Xf8 Xf9 Xf10 Xl Tc0 Tc1 Tc2 Tc3 Tc4 Tf0 Tf1 Tf2 Tf3 Tf4 Tl
        have b_6 := chain b_4 hb
        replace kX := blk_below kX hb
        replace kT := blk_below kT hb
        replace hN := hN.below hb
        replace hL := hL.below hb
        replace hx := hx.below hb
        replace ht := ht.below hb
        clear b_4
        clear hb
        obtain ⟨⟨Xc0, Xc1, Xc2, Xc3, Xc4, Xc5, Xc6, Xc7, Xc8, Xc9, Xc10⟩, ⟨Xf0, Xf1, Xf2, Xf3, Xf4, Xf5, Xf6, Xf7, Xf8, Xf9, Xf10⟩, Xl⟩ := eleven kX
        obtain ⟨⟨Tc0, Tc1, Tc2, Tc3, Tc4⟩, ⟨Tf0, Tf1, Tf2, Tf3, Tf4⟩, Tl⟩ := five kT
        go_wp2
        go_ret
        exact ⟨rfl, b_6⟩
      have cnm : decide (20 < (names.length : Int)) = false := decide_eq_false hnm
      have cnm2 : decide (20 < names.length) = false := decide_eq_false (by omega)
      have h20 : names.length ≤ 20 := by omega
      have H20 := Aside0.mk h20
      clear h20 hnm
      obtain ⟨⟨Xc0, Xc1, Xc2, Xc3, Xc4, Xc5, Xc6, Xc7, Xc8, Xc9, Xc10⟩, ⟨Xf0, Xf1, Xf2, Xf3, Xf4, Xf5, Xf6, Xf7, Xf8, Xf9, Xf10⟩, Xl⟩ := eleven kX
      obtain ⟨⟨Tc0, Tc1, Tc2, Tc3, Tc4⟩, ⟨Tf0, Tf1, Tf2, Tf3, Tf4⟩, Tl⟩ := five kT
      go_wp2_with fail
      refine (tmuch_c t et ht).mono ?_
      rintro e_ w_ ⟨rfl, hb⟩
      clear Xc0 Xc1 Xc2 Xc3 Xc4 Xc5 Xc6 Xc7 Xc8 Xc9 Xc10 Xf0 Xf1 Xf2 Xf3 Xf4 Xf5 Xf6 Xf7 Xf8 Xf9 Xf10 Xl Tc0 Tc1 Tc2 Tc3 Tc4 Tf0 Tf1 Tf2 Tf3 Tf4 Tl
      have b_7 := chain b_4 hb
      replace kX := blk_below kX hb
      replace kT := blk_below kT hb
      replace hN := hN.below hb
      replace hL := hL.below hb
      replace hx := hx.below hb
      replace ht := ht.below hb
      clear b_4
      clear hb
      by_cases hm : 100 < mt
      · have cm : decide (100 < mt) = true := decide_eq_true hm
        obtain ⟨⟨Xc0, Xc1, Xc2, Xc3, Xc4, Xc5, Xc6, Xc7, Xc8, Xc9, Xc10⟩, ⟨Xf0, Xf1, Xf2, Xf3, Xf4, Xf5, Xf6, Xf7, Xf8, Xf9, Xf10⟩, Xl⟩ := eleven kX
        obtain ⟨⟨Tc0, Tc1, Tc2, Tc3, Tc4⟩, ⟨Tf0, Tf1, Tf2, Tf3, Tf4⟩, Tl⟩ := five kT
        go_wp2_with fail
        refine (awake_c _).mono ?_
        rintro e_ w_ ⟨rfl, hb⟩
        clear Xc0 Xc1 Xc2 Xc3 Xc4 Xc5 Xc6 Xc7 Xc8 Xc9 Xc10 Xf0 Xf1 Xf2 Xf3 Xf4 Xf5 Xf6 Xf7 Xf8 Xf9 Xf10 Xl Tc0 Tc1 Tc2 Tc3 Tc4 Tf0 Tf1 Tf2 Tf3 Tf4 Tl
        have b_8 := chain b_7 hb
        replace kX := blk_below kX hb
        replace kT := blk_below kT hb
        replace hN := hN.below hb
        replace hL := hL.below hb
        replace hx := hx.below hb
        replace ht := ht.below hb
        clear b_7
        clear hb
        obtain ⟨⟨Xc0, Xc1, Xc2, Xc3, Xc4, Xc5, Xc6, Xc7, Xc8, Xc9, Xc10⟩, ⟨Xf0, Xf1, Xf2, Xf3, Xf4, Xf5, Xf6, Xf7, Xf8, Xf9, Xf10⟩, Xl⟩ := eleven kX
        obtain ⟨⟨Tc0, Tc1, Tc2, Tc3, Tc4⟩, ⟨Tf0, Tf1, Tf2, Tf3, Tf4⟩, Tl⟩ := five kT
        go_wp2
        go_ret
        exact ⟨rfl, b_8⟩
      have cm : decide (100 < mt) = false := decide_eq_false hm
      clear hm
      obtain ⟨⟨Xc0, Xc1, Xc2, Xc3, Xc4, Xc5, Xc6, Xc7, Xc8, Xc9, Xc10⟩, ⟨Xf0, Xf1, Xf2, Xf3, Xf4, Xf5, Xf6, Xf7, Xf8, Xf9, Xf10⟩, Xl⟩ := eleven kX
      obtain ⟨⟨Tc0, Tc1, Tc2, Tc3, Tc4⟩, ⟨Tf0, Tf1, Tf2, Tf3, Tf4⟩, Tl⟩ := five kT
      go_wp2_with fail
      refine (of_c names b _ _ _ hN.1 hN.2 hn16).mono ?_
      rintro e_ w_ ⟨tp, q, rfl, hq, hT, hb⟩
      clear Xc0 Xc1 Xc2 Xc3 Xc4 Xc5 Xc6 Xc7 Xc8 Xc9 Xc10 Xf0 Xf1 Xf2 Xf3 Xf4 Xf5 Xf6 Xf7 Xf8 Xf9 Xf10 Xl Tc0 Tc1 Tc2 Tc3 Tc4 Tf0 Tf1 Tf2 Tf3 Tf4 Tl
      have b_9 := chain b_7 hb
      replace kX := blk_below kX hb
      replace kT := blk_below kT hb
      replace hN := hN.below hb
      replace hL := hL.below hb
      replace hx := hx.below hb
      replace ht := ht.below hb
      clear b_7
      clear hb
      obtain ⟨⟨Xc0, Xc1, Xc2, Xc3, Xc4, Xc5, Xc6, Xc7, Xc8, Xc9, Xc10⟩, ⟨Xf0, Xf1, Xf2, Xf3, Xf4, Xf5, Xf6, Xf7, Xf8, Xf9, Xf10⟩, Xl⟩ := eleven kX
      obtain ⟨⟨Tc0, Tc1, Tc2, Tc3, Tc4⟩, ⟨Tf0, Tf1, Tf2, Tf3, Tf4⟩, Tl⟩ := five kT
      go_wp2_with fail
      go_loopg [13, 14] l.length (fun kq v13 v14 w' => ∃ (i : Nat) (q : Option Addr), v13 = .pointer q ∧ v14 = .int .i64 i ∧ kq + i = l.length ∧ IsEnv w' tp q (l.take i).reverse ∧ Below w_.heap.size w_ w')
      case atStart => exact ⟨0, q, rfl, rfl, rfl, hq, Below.refl _ _⟩
      case round =>
        clear hq
        obtain ⟨i, q, rfl, rfl, hk, hq, br⟩ := hrel
        clear Xc0 Xc1 Xc2 Xc3 Xc4 Xc5 Xc6 Xc7 Xc8 Xc9 Xc10 Xf0 Xf1 Xf2 Xf3 Xf4 Xf5 Xf6 Xf7 Xf8 Xf9 Xf10 Xl Tc0 Tc1 Tc2 Tc3 Tc4 Tf0 Tf1 Tf2 Tf3 Tf4 Tl
        have b_10 := chain b_9 br
        replace kX := blk_below kX br
        replace kT := blk_below kT br
        replace hN := hN.below br
        replace hL := hL.below br
        replace hx := hx.below br
        replace ht := ht.below br
        replace hT := hT.below br
        clear b_9
        by_cases hi : i < l.length
        · obtain ⟨k1, rfl⟩ : ∃ k1, gk = k1 + 1 := ⟨gk - 1, by omega⟩
          have ci : decide ((i : Int) < (l.length : Int)) = true := decide_eq_true (by omega)
          have i0 : (0 : Int) ≤ (i : Int) := by omega
          have i1 : (i : Int) < (l.length : Int) := by omega
          obtain ⟨ad, E6, e6, E7, e7, E8, e8, hA, fx, x0, x1, x2, x3, x4, x5, x6, x7, x8, x9, x10⟩ := selt hL.1 i hi
          subst hA
          have HK := Aside0.mk hk
          clear hk
          go_wp2_with fail
          refine wp_region_held_drew (S := (fun w' => Below wr.heap.size wr w' ∧ w'.cell? (ad.add (i * 11)) = some (.string l[i].f0) ∧ w'.cell? ⟨(ad.add (i * 11)).block, (ad.add (i * 11)).off + 1, none⟩ = some (.int .i64 l[i].f1.f0) ∧ w'.cell? ⟨(ad.add (i * 11)).block, (ad.add (i * 11)).off + 2, none⟩ = some (.int .i64 l[i].f1.f1) ∧ w'.cell? ⟨(ad.add (i * 11)).block, (ad.add (i * 11)).off + 3, none⟩ = some (.int .i64 l[i].f1.f2) ∧ w'.cell? ⟨(ad.add (i * 11)).block, (ad.add (i * 11)).off + 4, none⟩ = some (.bool l[i].f1.f3) ∧ w'.cell? ⟨(ad.add (i * 11)).block, (ad.add (i * 11)).off + 5, none⟩ = some (.string l[i].f1.f4) ∧ w'.cell? ⟨(ad.add (i * 11)).block, (ad.add (i * 11)).off + 6, none⟩ = some (.string l[i].f1.f5.f0) ∧ w'.cell? ⟨(ad.add (i * 11)).block, (ad.add (i * 11)).off + 7, none⟩ = some (.int .i64 l[i].f1.f5.f1) ∧ w'.cell? ⟨(ad.add (i * 11)).block, (ad.add (i * 11)).off + 8, none⟩ = some (.slice E6 l[i].f1.f6.length e6) ∧ w'.cell? ⟨(ad.add (i * 11)).block, (ad.add (i * 11)).off + 9, none⟩ = some (.slice E7 l[i].f1.f7.length e7) ∧ w'.cell? ⟨(ad.add (i * 11)).block, (ad.add (i * 11)).off + 10, none⟩ = some (.slice E8 l[i].f1.f8.length e8))) (by kernel_rfl) ?_ (fun hHeld => ?_)
          · (try dsimp only)
            ((refine and_of (fun hB_ => ⟨cell_up hB_ x0, cell_up hB_ x1, cell_up hB_ x2, cell_up hB_ x3, cell_up hB_ x4, cell_up hB_ x5, cell_up hB_ x6, cell_up hB_ x7, cell_up hB_ x8, cell_up hB_ x9, cell_up hB_ x10⟩) ?_; first | (with_reducible exact (Below.refl _ _).drew) | (with_reducible exact below_call' (And.left (by assumption)) (by assumption)) | (with_reducible exact And.left (by assumption))))
          (first | (refine take_held (i := 0) (d := (some 55)) (v := ?_) rfl rfl (by kernel_rfl) (by kernel_rfl) (by kernel_rfl) (fun _ _ _ h => h) (Or.inl ⟨by rfl, ?_⟩) (by assumption) ?_; rotate_left 1; focus ((intro w hSw; (try dsimp only at hSw); first | (go_simp; done) | (go_simp; with_reducible rfl)); done); (try simp only [Act.put, List.setIfInBounds_toArray, List.set_cons_zero, List.set_cons_succ])))
          (try simp only [Act.put, List.setIfInBounds_toArray, List.set_cons_zero, List.set_cons_succ])
          (first | (refine take_held (i := 1) (d := (some 56)) (v := ?_) rfl rfl (by kernel_rfl) (by kernel_rfl) (by kernel_rfl) (fun _ _ _ h => h) (Or.inl ⟨by rfl, ?_⟩) (by assumption) ?_; rotate_left 1; focus ((intro w hSw; (try dsimp only at hSw); first | (go_simp; done) | (go_simp; with_reducible rfl)); done); (try simp only [Act.put, List.setIfInBounds_toArray, List.set_cons_zero, List.set_cons_succ])))
          (try simp only [Act.put, List.setIfInBounds_toArray, List.set_cons_zero, List.set_cons_succ])
          (first | (refine take_held (i := 2) (d := (some 57)) (v := ?_) rfl rfl (by kernel_rfl) (by kernel_rfl) (by kernel_rfl) (fun _ _ _ h => h) (Or.inl ⟨by rfl, ?_⟩) (by assumption) ?_; rotate_left 1; focus ((intro w hSw; (try dsimp only at hSw); first | (go_simp; done) | (go_simp; with_reducible rfl)); done); (try simp only [Act.put, List.setIfInBounds_toArray, List.set_cons_zero, List.set_cons_succ])))
          (try simp only [Act.put, List.setIfInBounds_toArray, List.set_cons_zero, List.set_cons_succ])
          (first | (refine take_held (i := 3) (d := (some 58)) (v := ?_) rfl rfl (by kernel_rfl) (by kernel_rfl) (by kernel_rfl) (fun _ _ _ h => h) (Or.inl ⟨by rfl, ?_⟩) (by assumption) ?_; rotate_left 1; focus ((intro w hSw; (try dsimp only at hSw); first | (go_simp; done) | (go_simp; with_reducible rfl)); done); (try simp only [Act.put, List.setIfInBounds_toArray, List.set_cons_zero, List.set_cons_succ])))
          (try simp only [Act.put, List.setIfInBounds_toArray, List.set_cons_zero, List.set_cons_succ])
          (first | (refine take_held (i := 4) (d := (some 59)) (v := ?_) rfl rfl (by kernel_rfl) (by kernel_rfl) (by kernel_rfl) (fun _ _ _ h => h) (Or.inl ⟨by rfl, ?_⟩) (by assumption) ?_; rotate_left 1; focus ((intro w hSw; (try dsimp only at hSw); first | (go_simp; done) | (go_simp; with_reducible rfl)); done); (try simp only [Act.put, List.setIfInBounds_toArray, List.set_cons_zero, List.set_cons_succ])))
          (try simp only [Act.put, List.setIfInBounds_toArray, List.set_cons_zero, List.set_cons_succ])
          (first | (refine take_held (i := 5) (d := (some 60)) (v := ?_) rfl rfl (by kernel_rfl) (by kernel_rfl) (by kernel_rfl) (fun _ _ _ h => h) (Or.inl ⟨by rfl, ?_⟩) (by assumption) ?_; rotate_left 1; focus ((intro w hSw; (try dsimp only at hSw); first | (go_simp; done) | (go_simp; with_reducible rfl)); done); (try simp only [Act.put, List.setIfInBounds_toArray, List.set_cons_zero, List.set_cons_succ])))
          (try simp only [Act.put, List.setIfInBounds_toArray, List.set_cons_zero, List.set_cons_succ])
          (first | (refine take_held (i := 6) (d := (some 61)) (v := ?_) rfl rfl (by kernel_rfl) (by kernel_rfl) (by kernel_rfl) (fun _ _ _ h => h) (Or.inl ⟨by rfl, ?_⟩) (by assumption) ?_; rotate_left 1; focus ((intro w hSw; (try dsimp only at hSw); first | (go_simp; done) | (go_simp; with_reducible rfl)); done); (try simp only [Act.put, List.setIfInBounds_toArray, List.set_cons_zero, List.set_cons_succ])))
          (try simp only [Act.put, List.setIfInBounds_toArray, List.set_cons_zero, List.set_cons_succ])
          (first | (refine take_held (i := 7) (d := (some 62)) (v := ?_) rfl rfl (by kernel_rfl) (by kernel_rfl) (by kernel_rfl) (fun _ _ _ h => h) (Or.inl ⟨by rfl, ?_⟩) (by assumption) ?_; rotate_left 1; focus ((intro w hSw; (try dsimp only at hSw); first | (go_simp; done) | (go_simp; with_reducible rfl)); done); (try simp only [Act.put, List.setIfInBounds_toArray, List.set_cons_zero, List.set_cons_succ])))
          (try simp only [Act.put, List.setIfInBounds_toArray, List.set_cons_zero, List.set_cons_succ])
          (first | (refine take_held (i := 8) (d := (some 63)) (v := ?_) rfl rfl (by kernel_rfl) (by kernel_rfl) (by kernel_rfl) (fun _ _ _ h => h) (Or.inl ⟨by rfl, ?_⟩) (by assumption) ?_; rotate_left 1; focus ((intro w hSw; (try dsimp only at hSw); first | (go_simp; done) | (go_simp; with_reducible rfl)); done); (try simp only [Act.put, List.setIfInBounds_toArray, List.set_cons_zero, List.set_cons_succ])))
          (try simp only [Act.put, List.setIfInBounds_toArray, List.set_cons_zero, List.set_cons_succ])
          (first | (refine take_held (i := 9) (d := (some 64)) (v := ?_) rfl rfl (by kernel_rfl) (by kernel_rfl) (by kernel_rfl) (fun _ _ _ h => h) (Or.inl ⟨by rfl, ?_⟩) (by assumption) ?_; rotate_left 1; focus ((intro w hSw; (try dsimp only at hSw); first | (go_simp; done) | (go_simp; with_reducible rfl)); done); (try simp only [Act.put, List.setIfInBounds_toArray, List.set_cons_zero, List.set_cons_succ])))
          (try simp only [Act.put, List.setIfInBounds_toArray, List.set_cons_zero, List.set_cons_succ])
          (first | (refine take_held (i := 10) (d := (some 65)) (v := ?_) rfl rfl (by kernel_rfl) (by kernel_rfl) (by kernel_rfl) (fun _ _ _ h => h) (Or.inl ⟨by rfl, ?_⟩) (by assumption) ?_; rotate_left 1; focus ((intro w hSw; (try dsimp only at hSw); first | (go_simp; done) | (go_simp; with_reducible rfl)); done); (try simp only [Act.put, List.setIfInBounds_toArray, List.set_cons_zero, List.set_cons_succ])))
          (try simp only [Act.put, List.setIfInBounds_toArray, List.set_cons_zero, List.set_cons_succ])
          (first
            | (refine wpAnyH_ready (rs := [11]) (by kernel_rfl) (by simp) ?_; refine AllReadyH.cons (o := _) rfl (fun K hK => ?_) AllReadyH.nil; go_simp; (go_at_call 25; refine (with_c l[i].f0 l[i].f1 (hq.below (And.left hHeld)) (fx.below (And.left hHeld)) (by have := List.length_take_le i l; simp; omega)).mono ?_; rintro e_ wA ⟨q2, rfl, hq2, hbA⟩); (try go_wp2_with fail); refine hK.out _ _ (by (try dsimp only); ((refine and_of (fun hB_ => ⟨cell_up hB_ x0, cell_up hB_ x1, cell_up hB_ x2, cell_up hB_ x3, cell_up hB_ x4, cell_up hB_ x5, cell_up hB_ x6, cell_up hB_ x7, cell_up hB_ x8, cell_up hB_ x9, cell_up hB_ x10⟩) ?_; first | (with_reducible exact (Below.refl _ _).drew) | (with_reducible exact below_call' (And.left (by assumption)) (by assumption)) | (with_reducible exact And.left (by assumption))))) ?_; clear hHeld hK K; intro hHeld; (try simp only [Act.put, List.setIfInBounds_toArray, List.set_cons_zero, List.set_cons_succ])))
          (first | (refine take_held (i := 12) (d := (some 13)) (v := ?_) rfl rfl (by kernel_rfl) (by kernel_rfl) (by kernel_rfl) (fun _ _ _ h => h) (Or.inl ⟨by rfl, ?_⟩) (by assumption) ?_; rotate_left 1; focus ((intro w hSw; (try dsimp only at hSw); first | (go_simp; done) | (go_simp; with_reducible rfl)); done); (try simp only [Act.put, List.setIfInBounds_toArray, List.set_cons_zero, List.set_cons_succ])))
          (try simp only [Act.put, List.setIfInBounds_toArray, List.set_cons_zero, List.set_cons_succ])
          (try simp only [Act.put, List.setIfInBounds_toArray, List.set_cons_zero, List.set_cons_succ])
          refine wpAnyH_done (by kernel_rfl) ?_ _
          have br2 := below_call' (And.left hHeld) (Below.refl _ _)
          clear x0 x1 x2 x3 x4 x5 x6 x7 x8 x9 x10 fx hHeld
          go_wp2
          go_roundg k1
          case measure => omega
          case rel => exact ⟨i + 1, q2, rfl, (by first | rfl | (rw [wrap_up (by omega)])), by have := HK.out; omega, by rw [List.take_succ_eq_append_getElem hi, List.reverse_append]; exact hq2, chain br br2⟩
        have cn : decide ((i : Int) < (l.length : Int)) = false := decide_eq_false (by omega)
        have e0 : l.take i = l := List.take_of_length_le (by omega)
        rw [e0] at hq
        have cn2 : decide (i < l.length) = false := decide_eq_false hi
        clear e0 hk
        obtain ⟨⟨Xc0, Xc1, Xc2, Xc3, Xc4, Xc5, Xc6, Xc7, Xc8, Xc9, Xc10⟩, ⟨Xf0, Xf1, Xf2, Xf3, Xf4, Xf5, Xf6, Xf7, Xf8, Xf9, Xf10⟩, Xl⟩ := eleven kX
        obtain ⟨⟨Tc0, Tc1, Tc2, Tc3, Tc4⟩, ⟨Tf0, Tf1, Tf2, Tf3, Tf4⟩, Tl⟩ := five kT
        go_wp2_with fail
        refine (find_c2 s hq (by simp; omega)).mono ?_
        rintro e_ w2 ⟨U6, u6, U7, u7, U8, u8, rfl, hU, hb⟩
        clear Xc0 Xc1 Xc2 Xc3 Xc4 Xc5 Xc6 Xc7 Xc8 Xc9 Xc10 Xf0 Xf1 Xf2 Xf3 Xf4 Xf5 Xf6 Xf7 Xf8 Xf9 Xf10 Xl Tc0 Tc1 Tc2 Tc3 Tc4 Tf0 Tf1 Tf2 Tf3 Tf4 Tl
        have b_11 := chain b_10 hb
        replace kX := blk_below kX hb
        replace kT := blk_below kT hb
        replace hN := hN.below hb
        replace hL := hL.below hb
        replace hx := hx.below hb
        replace ht := ht.below hb
        replace hT := hT.below hb
        replace hq := hq.below hb
        clear b_10
        clear hb
        have kU := blk_new w2 (.cells (vcells (fv l.reverse s) U6 u6 U7 u7 U8 u8) 52)
        have hb := below_alloc1 w2 (.cells (vcells (fv l.reverse s) U6 u6 U7 u7 U8 u8) 52)
        have b_12 := chain b_11 hb
        replace kX := blk_below kX hb
        replace kT := blk_below kT hb
        replace hN := hN.below hb
        replace hL := hL.below hb
        replace hx := hx.below hb
        replace ht := ht.below hb
        replace hT := hT.below hb
        replace hq := hq.below hb
        replace hU := hU.below hb
        clear b_11
        clear hb
        obtain ⟨⟨Xc0, Xc1, Xc2, Xc3, Xc4, Xc5, Xc6, Xc7, Xc8, Xc9, Xc10⟩, ⟨Xf0, Xf1, Xf2, Xf3, Xf4, Xf5, Xf6, Xf7, Xf8, Xf9, Xf10⟩, Xl⟩ := eleven kX
        obtain ⟨⟨Tc0, Tc1, Tc2, Tc3, Tc4⟩, ⟨Tf0, Tf1, Tf2, Tf3, Tf4⟩, Tl⟩ := five kT
        obtain ⟨⟨Uc0, Uc1, Uc2, Uc3, Uc4, Uc5, Uc6, Uc7, Uc8, Uc9⟩, ⟨Uf0, Uf1, Uf2, Uf3, Uf4, Uf5, Uf6, Uf7, Uf8, Uf9⟩, Ul⟩ := ten kU
        go_wp2_with fail
        refine (with_c x.f0 x.f1 hq hx (by simp; omega)).mono ?_
        rintro e_ w_ ⟨qf, rfl, hf, hb⟩
        clear Xc0 Xc1 Xc2 Xc3 Xc4 Xc5 Xc6 Xc7 Xc8 Xc9 Xc10 Xf0 Xf1 Xf2 Xf3 Xf4 Xf5 Xf6 Xf7 Xf8 Xf9 Xf10 Xl Tc0 Tc1 Tc2 Tc3 Tc4 Tf0 Tf1 Tf2 Tf3 Tf4 Tl Uc0 Uc1 Uc2 Uc3 Uc4 Uc5 Uc6 Uc7 Uc8 Uc9 Uf0 Uf1 Uf2 Uf3 Uf4 Uf5 Uf6 Uf7 Uf8 Uf9 Ul
        have b_13 := chain b_12 hb
        replace kX := blk_below kX hb
        replace kT := blk_below kT hb
        replace kU := blk_below kU hb
        replace hN := hN.below hb
        replace hL := hL.below hb
        replace hx := hx.below hb
        replace ht := ht.below hb
        replace hT := hT.below hb
        replace hq := hq.below hb
        replace hU := hU.below hb
        clear b_12
        clear hb
        obtain ⟨⟨Xc0, Xc1, Xc2, Xc3, Xc4, Xc5, Xc6, Xc7, Xc8, Xc9, Xc10⟩, ⟨Xf0, Xf1, Xf2, Xf3, Xf4, Xf5, Xf6, Xf7, Xf8, Xf9, Xf10⟩, Xl⟩ := eleven kX
        obtain ⟨⟨Tc0, Tc1, Tc2, Tc3, Tc4⟩, ⟨Tf0, Tf1, Tf2, Tf3, Tf4⟩, Tl⟩ := five kT
        obtain ⟨⟨Uc0, Uc1, Uc2, Uc3, Uc4, Uc5, Uc6, Uc7, Uc8, Uc9⟩, ⟨Uf0, Uf1, Uf2, Uf3, Uf4, Uf5, Uf6, Uf7, Uf8, Uf9⟩, Ul⟩ := ten kU
        go_wp2_with fail
        refine (with_c s zV hq (RV.zero _) (by simp; omega)).mono ?_
        rintro e_ w_ ⟨qg, rfl, hg, hb⟩
        clear Xc0 Xc1 Xc2 Xc3 Xc4 Xc5 Xc6 Xc7 Xc8 Xc9 Xc10 Xf0 Xf1 Xf2 Xf3 Xf4 Xf5 Xf6 Xf7 Xf8 Xf9 Xf10 Xl Tc0 Tc1 Tc2 Tc3 Tc4 Tf0 Tf1 Tf2 Tf3 Tf4 Tl Uc0 Uc1 Uc2 Uc3 Uc4 Uc5 Uc6 Uc7 Uc8 Uc9 Uf0 Uf1 Uf2 Uf3 Uf4 Uf5 Uf6 Uf7 Uf8 Uf9 Ul
        have b_14 := chain b_13 hb
        replace kX := blk_below kX hb
        replace kT := blk_below kT hb
        replace kU := blk_below kU hb
        replace hN := hN.below hb
        replace hL := hL.below hb
        replace hx := hx.below hb
        replace ht := ht.below hb
        replace hT := hT.below hb
        replace hq := hq.below hb
        replace hU := hU.below hb
        replace hf := hf.below hb
        clear b_13
        clear hb
        obtain ⟨⟨Xc0, Xc1, Xc2, Xc3, Xc4, Xc5, Xc6, Xc7, Xc8, Xc9, Xc10⟩, ⟨Xf0, Xf1, Xf2, Xf3, Xf4, Xf5, Xf6, Xf7, Xf8, Xf9, Xf10⟩, Xl⟩ := eleven kX
        obtain ⟨⟨Tc0, Tc1, Tc2, Tc3, Tc4⟩, ⟨Tf0, Tf1, Tf2, Tf3, Tf4⟩, Tl⟩ := five kT
        obtain ⟨⟨Uc0, Uc1, Uc2, Uc3, Uc4, Uc5, Uc6, Uc7, Uc8, Uc9⟩, ⟨Uf0, Uf1, Uf2, Uf3, Uf4, Uf5, Uf6, Uf7, Uf8, Uf9⟩, Ul⟩ := ten kU
        go_wp2_with fail
        refine (find_c2 x.f0 hf (by simp; omega)).mono ?_
        rintro e_ w3 ⟨G6, g6, G7, g7, G8, g8, rfl, hG, hb⟩
        clear Xc0 Xc1 Xc2 Xc3 Xc4 Xc5 Xc6 Xc7 Xc8 Xc9 Xc10 Xf0 Xf1 Xf2 Xf3 Xf4 Xf5 Xf6 Xf7 Xf8 Xf9 Xf10 Xl Tc0 Tc1 Tc2 Tc3 Tc4 Tf0 Tf1 Tf2 Tf3 Tf4 Tl Uc0 Uc1 Uc2 Uc3 Uc4 Uc5 Uc6 Uc7 Uc8 Uc9 Uf0 Uf1 Uf2 Uf3 Uf4 Uf5 Uf6 Uf7 Uf8 Uf9 Ul
        have b_15 := chain b_14 hb
        replace kX := blk_below kX hb
        replace kT := blk_below kT hb
        replace kU := blk_below kU hb
        replace hN := hN.below hb
        replace hL := hL.below hb
        replace hx := hx.below hb
        replace ht := ht.below hb
        replace hT := hT.below hb
        replace hq := hq.below hb
        replace hU := hU.below hb
        replace hf := hf.below hb
        replace hg := hg.below hb
        clear b_14
        clear hb
        have kG := blk_new w3 (.cells (vcells (fv (⟨x.f0, x.f1⟩ :: l.reverse) x.f0) G6 g6 G7 g7 G8 g8) 52)
        have hb := below_alloc1 w3 (.cells (vcells (fv (⟨x.f0, x.f1⟩ :: l.reverse) x.f0) G6 g6 G7 g7 G8 g8) 52)
        have b_16 := chain b_15 hb
        replace kX := blk_below kX hb
        replace kT := blk_below kT hb
        replace kU := blk_below kU hb
        replace hN := hN.below hb
        replace hL := hL.below hb
        replace hx := hx.below hb
        replace ht := ht.below hb
        replace hT := hT.below hb
        replace hq := hq.below hb
        replace hU := hU.below hb
        replace hf := hf.below hb
        replace hg := hg.below hb
        replace hG := hG.below hb
        clear b_15
        clear hb
        obtain ⟨⟨Xc0, Xc1, Xc2, Xc3, Xc4, Xc5, Xc6, Xc7, Xc8, Xc9, Xc10⟩, ⟨Xf0, Xf1, Xf2, Xf3, Xf4, Xf5, Xf6, Xf7, Xf8, Xf9, Xf10⟩, Xl⟩ := eleven kX
        obtain ⟨⟨Tc0, Tc1, Tc2, Tc3, Tc4⟩, ⟨Tf0, Tf1, Tf2, Tf3, Tf4⟩, Tl⟩ := five kT
        obtain ⟨⟨Uc0, Uc1, Uc2, Uc3, Uc4, Uc5, Uc6, Uc7, Uc8, Uc9⟩, ⟨Uf0, Uf1, Uf2, Uf3, Uf4, Uf5, Uf6, Uf7, Uf8, Uf9⟩, Ul⟩ := ten kU
        obtain ⟨⟨Gc0, Gc1, Gc2, Gc3, Gc4, Gc5, Gc6, Gc7, Gc8, Gc9⟩, ⟨Gf0, Gf1, Gf2, Gf3, Gf4, Gf5, Gf6, Gf7, Gf8, Gf9⟩, Gl⟩ := ten kG
        go_wp2_with fail
        refine (find_c2 s hf (by simp; omega)).mono ?_
        rintro e_ w4 ⟨H6, h6, H7, h7, H8, h8, rfl, hH, hb⟩
        clear Xc0 Xc1 Xc2 Xc3 Xc4 Xc5 Xc6 Xc7 Xc8 Xc9 Xc10 Xf0 Xf1 Xf2 Xf3 Xf4 Xf5 Xf6 Xf7 Xf8 Xf9 Xf10 Xl Tc0 Tc1 Tc2 Tc3 Tc4 Tf0 Tf1 Tf2 Tf3 Tf4 Tl Uc0 Uc1 Uc2 Uc3 Uc4 Uc5 Uc6 Uc7 Uc8 Uc9 Uf0 Uf1 Uf2 Uf3 Uf4 Uf5 Uf6 Uf7 Uf8 Uf9 Ul Gc0 Gc1 Gc2 Gc3 Gc4 Gc5 Gc6 Gc7 Gc8 Gc9 Gf0 Gf1 Gf2 Gf3 Gf4 Gf5 Gf6 Gf7 Gf8 Gf9 Gl
        have b_17 := chain b_16 hb
        replace kX := blk_below kX hb
        replace kT := blk_below kT hb
        replace kU := blk_below kU hb
        replace kG := blk_below kG hb
        replace hN := hN.below hb
        replace hL := hL.below hb
        replace hx := hx.below hb
        replace ht := ht.below hb
        replace hT := hT.below hb
        replace hq := hq.below hb
        replace hU := hU.below hb
        replace hf := hf.below hb
        replace hg := hg.below hb
        replace hG := hG.below hb
        clear b_16
        clear hb
        have kH := blk_new w4 (.cells (vcells (fv (⟨x.f0, x.f1⟩ :: l.reverse) s) H6 h6 H7 h7 H8 h8) 52)
        have hb := below_alloc1 w4 (.cells (vcells (fv (⟨x.f0, x.f1⟩ :: l.reverse) s) H6 h6 H7 h7 H8 h8) 52)
        have b_18 := chain b_17 hb
        replace kX := blk_below kX hb
        replace kT := blk_below kT hb
        replace kU := blk_below kU hb
        replace kG := blk_below kG hb
        replace hN := hN.below hb
        replace hL := hL.below hb
        replace hx := hx.below hb
        replace ht := ht.below hb
        replace hT := hT.below hb
        replace hq := hq.below hb
        replace hU := hU.below hb
        replace hf := hf.below hb
        replace hg := hg.below hb
        replace hG := hG.below hb
        replace hH := hH.below hb
        clear b_17
        clear hb
        obtain ⟨⟨Xc0, Xc1, Xc2, Xc3, Xc4, Xc5, Xc6, Xc7, Xc8, Xc9, Xc10⟩, ⟨Xf0, Xf1, Xf2, Xf3, Xf4, Xf5, Xf6, Xf7, Xf8, Xf9, Xf10⟩, Xl⟩ := eleven kX
        obtain ⟨⟨Tc0, Tc1, Tc2, Tc3, Tc4⟩, ⟨Tf0, Tf1, Tf2, Tf3, Tf4⟩, Tl⟩ := five kT
        obtain ⟨⟨Uc0, Uc1, Uc2, Uc3, Uc4, Uc5, Uc6, Uc7, Uc8, Uc9⟩, ⟨Uf0, Uf1, Uf2, Uf3, Uf4, Uf5, Uf6, Uf7, Uf8, Uf9⟩, Ul⟩ := ten kU
        obtain ⟨⟨Gc0, Gc1, Gc2, Gc3, Gc4, Gc5, Gc6, Gc7, Gc8, Gc9⟩, ⟨Gf0, Gf1, Gf2, Gf3, Gf4, Gf5, Gf6, Gf7, Gf8, Gf9⟩, Gl⟩ := ten kG
        obtain ⟨⟨Hc0, Hc1, Hc2, Hc3, Hc4, Hc5, Hc6, Hc7, Hc8, Hc9⟩, ⟨Hf0, Hf1, Hf2, Hf3, Hf4, Hf5, Hf6, Hf7, Hf8, Hf9⟩, Hl⟩ := ten kH
        go_wp2_with fail
        refine (find_c2 s hq (by simp; omega)).mono ?_
        rintro e_ w5 ⟨J6, j6, J7, j7, J8, j8, rfl, hJ, hb⟩
        clear Xc0 Xc1 Xc2 Xc3 Xc4 Xc5 Xc6 Xc7 Xc8 Xc9 Xc10 Xf0 Xf1 Xf2 Xf3 Xf4 Xf5 Xf6 Xf7 Xf8 Xf9 Xf10 Xl Tc0 Tc1 Tc2 Tc3 Tc4 Tf0 Tf1 Tf2 Tf3 Tf4 Tl Uc0 Uc1 Uc2 Uc3 Uc4 Uc5 Uc6 Uc7 Uc8 Uc9 Uf0 Uf1 Uf2 Uf3 Uf4 Uf5 Uf6 Uf7 Uf8 Uf9 Ul Gc0 Gc1 Gc2 Gc3 Gc4 Gc5 Gc6 Gc7 Gc8 Gc9 Gf0 Gf1 Gf2 Gf3 Gf4 Gf5 Gf6 Gf7 Gf8 Gf9 Gl Hc0 Hc1 Hc2 Hc3 Hc4 Hc5 Hc6 Hc7 Hc8 Hc9 Hf0 Hf1 Hf2 Hf3 Hf4 Hf5 Hf6 Hf7 Hf8 Hf9 Hl
        have b_19 := chain b_18 hb
        replace kX := blk_below kX hb
        replace kT := blk_below kT hb
        replace kU := blk_below kU hb
        replace kG := blk_below kG hb
        replace kH := blk_below kH hb
        replace hN := hN.below hb
        replace hL := hL.below hb
        replace hx := hx.below hb
        replace ht := ht.below hb
        replace hT := hT.below hb
        replace hq := hq.below hb
        replace hU := hU.below hb
        replace hf := hf.below hb
        replace hg := hg.below hb
        replace hG := hG.below hb
        replace hH := hH.below hb
        clear b_18
        clear hb
        have kJ := blk_new w5 (.cells (vcells (fv l.reverse s) J6 j6 J7 j7 J8 j8) 52)
        have hb := below_alloc1 w5 (.cells (vcells (fv l.reverse s) J6 j6 J7 j7 J8 j8) 52)
        have b_20 := chain b_19 hb
        replace kX := blk_below kX hb
        replace kT := blk_below kT hb
        replace kU := blk_below kU hb
        replace kG := blk_below kG hb
        replace kH := blk_below kH hb
        replace hN := hN.below hb
        replace hL := hL.below hb
        replace hx := hx.below hb
        replace ht := ht.below hb
        replace hT := hT.below hb
        replace hq := hq.below hb
        replace hU := hU.below hb
        replace hf := hf.below hb
        replace hg := hg.below hb
        replace hG := hG.below hb
        replace hH := hH.below hb
        replace hJ := hJ.below hb
        clear b_19
        clear hb
        have ou : Okv (fv l.reverse s) := okv_fv (fun y hy => ol y (List.mem_reverse.1 hy)) s
        rw [fv_head] at hG kG
        have gb := fb_head ⟨x.f0, x.f1⟩ l.reverse
        have tail : eqText x.f0 s = false → fv (⟨x.f0, x.f1⟩ :: l.reverse) s = fv l.reverse s ∧ fb (⟨x.f0, x.f1⟩ :: l.reverse) s = fb l.reverse s := fun h => ⟨fv_tail ⟨x.f0, x.f1⟩ l.reverse s h, fb_tail ⟨x.f0, x.f1⟩ l.reverse s h⟩
        simp only [fv_head, gb]
        clear gb
        generalize fv l.reverse s = vu at *
        generalize fb l.reverse s = bu at *
        generalize fv (⟨x.f0, x.f1⟩ :: l.reverse) s = vw at *
        generalize fb (⟨x.f0, x.f1⟩ :: l.reverse) s = bw at *
        have TAIL := Aside0.mk tail
        clear tail
        obtain ⟨kc, r1, r2, r3, r4, r5, ec, or⟩ := sealed names b H20.out ot
        obtain ⟨ks, es⟩ := same_told or ⟨r1, r2, r3, r4, r5⟩
        rw [same_refl] at es
        obtain ⟨⟨Xc0, Xc1, Xc2, Xc3, Xc4, Xc5, Xc6, Xc7, Xc8, Xc9, Xc10⟩, ⟨Xf0, Xf1, Xf2, Xf3, Xf4, Xf5, Xf6, Xf7, Xf8, Xf9, Xf10⟩, Xl⟩ := eleven kX
        obtain ⟨⟨Tc0, Tc1, Tc2, Tc3, Tc4⟩, ⟨Tf0, Tf1, Tf2, Tf3, Tf4⟩, Tl⟩ := five kT
        obtain ⟨⟨Uc0, Uc1, Uc2, Uc3, Uc4, Uc5, Uc6, Uc7, Uc8, Uc9⟩, ⟨Uf0, Uf1, Uf2, Uf3, Uf4, Uf5, Uf6, Uf7, Uf8, Uf9⟩, Ul⟩ := ten kU
        obtain ⟨⟨Gc0, Gc1, Gc2, Gc3, Gc4, Gc5, Gc6, Gc7, Gc8, Gc9⟩, ⟨Gf0, Gf1, Gf2, Gf3, Gf4, Gf5, Gf6, Gf7, Gf8, Gf9⟩, Gl⟩ := ten kG
        obtain ⟨⟨Hc0, Hc1, Hc2, Hc3, Hc4, Hc5, Hc6, Hc7, Hc8, Hc9⟩, ⟨Hf0, Hf1, Hf2, Hf3, Hf4, Hf5, Hf6, Hf7, Hf8, Hf9⟩, Hl⟩ := ten kH
        obtain ⟨⟨Jc0, Jc1, Jc2, Jc3, Jc4, Jc5, Jc6, Jc7, Jc8, Jc9⟩, ⟨Jf0, Jf1, Jf2, Jf3, Jf4, Jf5, Jf6, Jf7, Jf8, Jf9⟩, Jl⟩ := ten kJ
        go_wp2_with fail
        generalize hW5 : w5.alloc (.cells (vcells vu J6 j6 J7 j7 J8 j8) 52) = W5 at Xc0 Xc1 Xc2 Xc3 Xc4 Xc5 Xc6 Xc7 Xc8 Xc9 Xc10 Xf0 Xf1 Xf2 Xf3 Xf4 Xf5 Xf6 Xf7 Xf8 Xf9 Xf10 Xl Tc0 Tc1 Tc2 Tc3 Tc4 Tf0 Tf1 Tf2 Tf3 Tf4 Tl Uc0 Uc1 Uc2 Uc3 Uc4 Uc5 Uc6 Uc7 Uc8 Uc9 Uf0 Uf1 Uf2 Uf3 Uf4 Uf5 Uf6 Uf7 Uf8 Uf9 Ul Gc0 Gc1 Gc2 Gc3 Gc4 Gc5 Gc6 Gc7 Gc8 Gc9 Gf0 Gf1 Gf2 Gf3 Gf4 Gf5 Gf6 Gf7 Gf8 Gf9 Gl Hc0 Hc1 Hc2 Hc3 Hc4 Hc5 Hc6 Hc7 Hc8 Hc9 Hf0 Hf1 Hf2 Hf3 Hf4 Hf5 Hf6 Hf7 Hf8 Hf9 Hl Jc0 Jc1 Jc2 Jc3 Jc4 Jc5 Jc6 Jc7 Jc8 Jc9 Jf0 Jf1 Jf2 Jf3 Jf4 Jf5 Jf6 Jf7 Jf8 Jf9 Jl hN hL hx ht hT hq hU hf hg hG hH hJ kX kT kU kG kH kJ b_20 ⊢
        clear hW5
        refine wp_region_held_drew (S := (fun w' => Below W5.heap.size W5 w' ∧ w'.cell? ⟨w.heap.size, 1, none⟩ = some (.int .i64 x.f1.f0) ∧ w'.cell? ⟨w.heap.size, 2, none⟩ = some (.int .i64 x.f1.f1) ∧ w'.cell? ⟨w.heap.size, 3, none⟩ = some (.int .i64 x.f1.f2) ∧ w'.cell? ⟨w.heap.size, 4, none⟩ = some (.bool x.f1.f3) ∧ w'.cell? ⟨w.heap.size, 5, none⟩ = some (.string x.f1.f4) ∧ w'.cell? ⟨w.heap.size, 6, none⟩ = some (.string x.f1.f5.f0) ∧ w'.cell? ⟨w.heap.size, 7, none⟩ = some (.int .i64 x.f1.f5.f1) ∧ w'.cell? ⟨w.heap.size, 8, none⟩ = some (.slice A6 x.f1.f6.length c6) ∧ w'.cell? ⟨w.heap.size, 9, none⟩ = some (.slice A7 x.f1.f7.length c7) ∧ w'.cell? ⟨w.heap.size, 10, none⟩ = some (.slice A8 x.f1.f8.length c8) ∧ w'.cell? ⟨w.heap.size + 1, 0, none⟩ = some (.int .i64 t.f0) ∧ w'.cell? ⟨w.heap.size + 1, 1, none⟩ = some (.int .i64 t.f1) ∧ w'.cell? ⟨w.heap.size + 1, 2, none⟩ = some (.string t.f2) ∧ w'.cell? ⟨w.heap.size + 1, 3, none⟩ = some (.slice A3 t.f3.length c3) ∧ w'.cell? ⟨w.heap.size + 1, 4, none⟩ = some (.slice A4 t.f4.length c4) ∧ w'.cell? ⟨w2.heap.size, 0, none⟩ = some (.int .i64 vu.f0) ∧ w'.cell? ⟨w2.heap.size, 1, none⟩ = some (.int .i64 vu.f1) ∧ w'.cell? ⟨w2.heap.size, 2, none⟩ = some (.int .i64 vu.f2) ∧ w'.cell? ⟨w2.heap.size, 3, none⟩ = some (.bool vu.f3) ∧ w'.cell? ⟨w2.heap.size, 4, none⟩ = some (.string vu.f4) ∧ w'.cell? ⟨w2.heap.size, 5, none⟩ = some (.string vu.f5.f0) ∧ w'.cell? ⟨w2.heap.size, 6, none⟩ = some (.int .i64 vu.f5.f1) ∧ w'.cell? ⟨w2.heap.size, 7, none⟩ = some (.slice U6 vu.f6.length u6) ∧ w'.cell? ⟨w2.heap.size, 8, none⟩ = some (.slice U7 vu.f7.length u7) ∧ w'.cell? ⟨w2.heap.size, 9, none⟩ = some (.slice U8 vu.f8.length u8) ∧ w'.cell? ⟨w3.heap.size, 0, none⟩ = some (.int .i64 x.f1.f0) ∧ w'.cell? ⟨w3.heap.size, 1, none⟩ = some (.int .i64 x.f1.f1) ∧ w'.cell? ⟨w3.heap.size, 2, none⟩ = some (.int .i64 x.f1.f2) ∧ w'.cell? ⟨w3.heap.size, 3, none⟩ = some (.bool x.f1.f3) ∧ w'.cell? ⟨w3.heap.size, 4, none⟩ = some (.string x.f1.f4) ∧ w'.cell? ⟨w3.heap.size, 5, none⟩ = some (.string x.f1.f5.f0) ∧ w'.cell? ⟨w3.heap.size, 6, none⟩ = some (.int .i64 x.f1.f5.f1) ∧ w'.cell? ⟨w3.heap.size, 7, none⟩ = some (.slice G6 x.f1.f6.length g6) ∧ w'.cell? ⟨w3.heap.size, 8, none⟩ = some (.slice G7 x.f1.f7.length g7) ∧ w'.cell? ⟨w3.heap.size, 9, none⟩ = some (.slice G8 x.f1.f8.length g8) ∧ w'.cell? ⟨w5.heap.size, 0, none⟩ = some (.int .i64 vu.f0) ∧ w'.cell? ⟨w5.heap.size, 1, none⟩ = some (.int .i64 vu.f1) ∧ w'.cell? ⟨w5.heap.size, 2, none⟩ = some (.int .i64 vu.f2) ∧ w'.cell? ⟨w5.heap.size, 3, none⟩ = some (.bool vu.f3) ∧ w'.cell? ⟨w5.heap.size, 4, none⟩ = some (.string vu.f4) ∧ w'.cell? ⟨w5.heap.size, 5, none⟩ = some (.string vu.f5.f0) ∧ w'.cell? ⟨w5.heap.size, 6, none⟩ = some (.int .i64 vu.f5.f1) ∧ w'.cell? ⟨w5.heap.size, 7, none⟩ = some (.slice J6 vu.f6.length j6) ∧ w'.cell? ⟨w5.heap.size, 8, none⟩ = some (.slice J7 vu.f7.length j7) ∧ w'.cell? ⟨w5.heap.size, 9, none⟩ = some (.slice J8 vu.f8.length j8))) (by kernel_rfl) ?_ (fun hHeld => ?_)
        · (try dsimp only)
          ((refine and_of (fun hB_ => ⟨cell_up hB_ Xc1, cell_up hB_ Xc2, cell_up hB_ Xc3, cell_up hB_ Xc4, cell_up hB_ Xc5, cell_up hB_ Xc6, cell_up hB_ Xc7, cell_up hB_ Xc8, cell_up hB_ Xc9, cell_up hB_ Xc10, cell_up hB_ Tc0, cell_up hB_ Tc1, cell_up hB_ Tc2, cell_up hB_ Tc3, cell_up hB_ Tc4, cell_up hB_ Uc0, cell_up hB_ Uc1, cell_up hB_ Uc2, cell_up hB_ Uc3, cell_up hB_ Uc4, cell_up hB_ Uc5, cell_up hB_ Uc6, cell_up hB_ Uc7, cell_up hB_ Uc8, cell_up hB_ Uc9, cell_up hB_ Gc0, cell_up hB_ Gc1, cell_up hB_ Gc2, cell_up hB_ Gc3, cell_up hB_ Gc4, cell_up hB_ Gc5, cell_up hB_ Gc6, cell_up hB_ Gc7, cell_up hB_ Gc8, cell_up hB_ Gc9, cell_up hB_ Jc0, cell_up hB_ Jc1, cell_up hB_ Jc2, cell_up hB_ Jc3, cell_up hB_ Jc4, cell_up hB_ Jc5, cell_up hB_ Jc6, cell_up hB_ Jc7, cell_up hB_ Jc8, cell_up hB_ Jc9⟩) ?_; first | (with_reducible exact (Below.refl _ _).drew) | (with_reducible exact below_call' (And.left (by assumption)) (by assumption)) | (with_reducible exact And.left (by assumption))))
        (first | (refine take_held (i := 0) (d := (some 102)) (v := ?_) rfl rfl (by kernel_rfl) (by kernel_rfl) (by kernel_rfl) (fun _ _ _ h => h) (Or.inl ⟨by rfl, ?_⟩) (by assumption) ?_; rotate_left 1; focus ((intro w hSw; (try dsimp only at hSw); first | (go_simp; done) | (go_simp; with_reducible rfl)); done); (try simp only [Act.put, List.setIfInBounds_toArray, List.set_cons_zero, List.set_cons_succ])))
        (try simp only [Act.put, List.setIfInBounds_toArray, List.set_cons_zero, List.set_cons_succ])
        (first | (refine take_held (i := 1) (d := (some 103)) (v := ?_) rfl rfl (by kernel_rfl) (by kernel_rfl) (by kernel_rfl) (fun _ _ _ h => h) (Or.inl ⟨by rfl, ?_⟩) (by assumption) ?_; rotate_left 1; focus ((intro w hSw; (try dsimp only at hSw); first | (go_simp; done) | (go_simp; with_reducible rfl)); done); (try simp only [Act.put, List.setIfInBounds_toArray, List.set_cons_zero, List.set_cons_succ])))
        (try simp only [Act.put, List.setIfInBounds_toArray, List.set_cons_zero, List.set_cons_succ])
        (first | (refine take_held (i := 2) (d := (some 104)) (v := ?_) rfl rfl (by kernel_rfl) (by kernel_rfl) (by kernel_rfl) (fun _ _ _ h => h) (Or.inl ⟨by rfl, ?_⟩) (by assumption) ?_; rotate_left 1; focus ((intro w hSw; (try dsimp only at hSw); first | (go_simp; done) | (go_simp; with_reducible rfl)); done); (try simp only [Act.put, List.setIfInBounds_toArray, List.set_cons_zero, List.set_cons_succ])))
        (try simp only [Act.put, List.setIfInBounds_toArray, List.set_cons_zero, List.set_cons_succ])
        (first | (refine take_held (i := 3) (d := (some 105)) (v := ?_) rfl rfl (by kernel_rfl) (by kernel_rfl) (by kernel_rfl) (fun _ _ _ h => h) (Or.inl ⟨by rfl, ?_⟩) (by assumption) ?_; rotate_left 1; focus ((intro w hSw; (try dsimp only at hSw); first | (go_simp; done) | (go_simp; with_reducible rfl)); done); (try simp only [Act.put, List.setIfInBounds_toArray, List.set_cons_zero, List.set_cons_succ])) | (refine take_held (i := 3) (d := (some 105)) (v := undef) rfl rfl (by kernel_rfl) (by kernel_rfl) (by kernel_rfl) (fun _ _ _ h => h) (Or.inr ⟨by rfl, rfl⟩) (by assumption) ?_; (try simp only [Act.put, List.setIfInBounds_toArray, List.set_cons_zero, List.set_cons_succ])))
        (try simp only [Act.put, List.setIfInBounds_toArray, List.set_cons_zero, List.set_cons_succ])
        (first | (refine take_held (i := 4) (d := (some 106)) (v := ?_) rfl rfl (by kernel_rfl) (by kernel_rfl) (by kernel_rfl) (fun _ _ _ h => h) (Or.inl ⟨by rfl, ?_⟩) (by assumption) ?_; rotate_left 1; focus ((intro w hSw; (try dsimp only at hSw); first | (go_simp; done) | (go_simp; with_reducible rfl)); done); (try simp only [Act.put, List.setIfInBounds_toArray, List.set_cons_zero, List.set_cons_succ])) | (refine take_held (i := 4) (d := (some 106)) (v := undef) rfl rfl (by kernel_rfl) (by kernel_rfl) (by kernel_rfl) (fun _ _ _ h => h) (Or.inr ⟨by rfl, rfl⟩) (by assumption) ?_; (try simp only [Act.put, List.setIfInBounds_toArray, List.set_cons_zero, List.set_cons_succ])))
        (try simp only [Act.put, List.setIfInBounds_toArray, List.set_cons_zero, List.set_cons_succ])
        (first | (refine take_held (i := 5) (d := (some 107)) (v := ?_) rfl rfl (by kernel_rfl) (by kernel_rfl) (by kernel_rfl) (fun _ _ _ h => h) (Or.inl ⟨by rfl, ?_⟩) (by assumption) ?_; rotate_left 1; focus ((intro w hSw; (try dsimp only at hSw); first | (go_simp; done) | (go_simp; with_reducible rfl)); done); (try simp only [Act.put, List.setIfInBounds_toArray, List.set_cons_zero, List.set_cons_succ])) | (refine take_held (i := 5) (d := (some 107)) (v := undef) rfl rfl (by kernel_rfl) (by kernel_rfl) (by kernel_rfl) (fun _ _ _ h => h) (Or.inr ⟨by rfl, rfl⟩) (by assumption) ?_; (try simp only [Act.put, List.setIfInBounds_toArray, List.set_cons_zero, List.set_cons_succ])))
        (try simp only [Act.put, List.setIfInBounds_toArray, List.set_cons_zero, List.set_cons_succ])
        (first
          | (refine take_held (i := 6) (d := (some 108)) (v := undef) rfl rfl (by kernel_rfl) (by kernel_rfl) (by kernel_rfl) (fun _ _ _ h => h) (Or.inr ⟨by rfl, rfl⟩) (by assumption) ?_; (try simp only [Act.put, List.setIfInBounds_toArray, List.set_cons_zero, List.set_cons_succ]))
          | (refine wpAnyH_ready (rs := [6]) (by kernel_rfl) (by simp) ?_; refine AllReadyH.cons (o := _) rfl (fun K hK => ?_) AllReadyH.nil; go_simp; (go_at_call 27; refine (saysV ox _ _ _ _ _ _ _ _ _ _ _ _ _ (hG.below (And.left hHeld)) (hx.below (And.left hHeld))).mono ?_; rintro e_ wA ⟨rfl, hbA⟩); (try go_wp2_with fail); refine hK.out _ _ (by (try dsimp only); ((refine and_of (fun hB_ => ⟨cell_up hB_ Xc1, cell_up hB_ Xc2, cell_up hB_ Xc3, cell_up hB_ Xc4, cell_up hB_ Xc5, cell_up hB_ Xc6, cell_up hB_ Xc7, cell_up hB_ Xc8, cell_up hB_ Xc9, cell_up hB_ Xc10, cell_up hB_ Tc0, cell_up hB_ Tc1, cell_up hB_ Tc2, cell_up hB_ Tc3, cell_up hB_ Tc4, cell_up hB_ Uc0, cell_up hB_ Uc1, cell_up hB_ Uc2, cell_up hB_ Uc3, cell_up hB_ Uc4, cell_up hB_ Uc5, cell_up hB_ Uc6, cell_up hB_ Uc7, cell_up hB_ Uc8, cell_up hB_ Uc9, cell_up hB_ Gc0, cell_up hB_ Gc1, cell_up hB_ Gc2, cell_up hB_ Gc3, cell_up hB_ Gc4, cell_up hB_ Gc5, cell_up hB_ Gc6, cell_up hB_ Gc7, cell_up hB_ Gc8, cell_up hB_ Gc9, cell_up hB_ Jc0, cell_up hB_ Jc1, cell_up hB_ Jc2, cell_up hB_ Jc3, cell_up hB_ Jc4, cell_up hB_ Jc5, cell_up hB_ Jc6, cell_up hB_ Jc7, cell_up hB_ Jc8, cell_up hB_ Jc9⟩) ?_; first | (with_reducible exact (Below.refl _ _).drew) | (with_reducible exact below_call' (And.left hHeld) hbA) | (with_reducible exact And.left (by assumption))))) ?_; clear hHeld hK K; intro hHeld; (try simp only [Act.put, List.setIfInBounds_toArray, List.set_cons_zero, List.set_cons_succ])))
        (first | (refine take_held (i := 7) (d := (some 109)) (v := ?_) rfl rfl (by kernel_rfl) (by kernel_rfl) (by kernel_rfl) (fun _ _ _ h => h) (Or.inl ⟨by rfl, ?_⟩) (by assumption) ?_; rotate_left 1; focus ((intro w hSw; (try dsimp only at hSw); first | (go_simp; done) | (go_simp; with_reducible rfl)); done); (try simp only [Act.put, List.setIfInBounds_toArray, List.set_cons_zero, List.set_cons_succ])) | (refine take_held (i := 7) (d := (some 109)) (v := undef) rfl rfl (by kernel_rfl) (by kernel_rfl) (by kernel_rfl) (fun _ _ _ h => h) (Or.inr ⟨by rfl, rfl⟩) (by assumption) ?_; (try simp only [Act.put, List.setIfInBounds_toArray, List.set_cons_zero, List.set_cons_succ])))
        (try simp only [Act.put, List.setIfInBounds_toArray, List.set_cons_zero, List.set_cons_succ])
        (first | (refine take_held (i := 8) (d := (some 110)) (v := ?_) rfl rfl (by kernel_rfl) (by kernel_rfl) (by kernel_rfl) (fun _ _ _ h => h) (Or.inl ⟨by rfl, ?_⟩) (by assumption) ?_; rotate_left 1; focus ((intro w hSw; (try dsimp only at hSw); first | (go_simp; done) | (go_simp; with_reducible rfl)); done); (try simp only [Act.put, List.setIfInBounds_toArray, List.set_cons_zero, List.set_cons_succ])))
        (try simp only [Act.put, List.setIfInBounds_toArray, List.set_cons_zero, List.set_cons_succ])
        (first | (refine take_held (i := 9) (d := (some 111)) (v := ?_) rfl rfl (by kernel_rfl) (by kernel_rfl) (by kernel_rfl) (fun _ _ _ h => h) (Or.inl ⟨by rfl, ?_⟩) (by assumption) ?_; rotate_left 1; focus ((intro w hSw; (try dsimp only at hSw); first | (go_simp; done) | (go_simp; with_reducible rfl)); done); (try simp only [Act.put, List.setIfInBounds_toArray, List.set_cons_zero, List.set_cons_succ])))
        (try simp only [Act.put, List.setIfInBounds_toArray, List.set_cons_zero, List.set_cons_succ])
        (first | (refine take_held (i := 10) (d := (some 112)) (v := ?_) rfl rfl (by kernel_rfl) (by kernel_rfl) (by kernel_rfl) (fun _ _ _ h => h) (Or.inl ⟨by rfl, ?_⟩) (by assumption) ?_; rotate_left 1; focus ((intro w hSw; (try dsimp only at hSw); first | (go_simp; done) | (go_simp; with_reducible rfl)); done); (try simp only [Act.put, List.setIfInBounds_toArray, List.set_cons_zero, List.set_cons_succ])) | (refine take_held (i := 10) (d := (some 112)) (v := undef) rfl rfl (by kernel_rfl) (by kernel_rfl) (by kernel_rfl) (fun _ _ _ h => h) (Or.inr ⟨by rfl, rfl⟩) (by assumption) ?_; (try simp only [Act.put, List.setIfInBounds_toArray, List.set_cons_zero, List.set_cons_succ])))
        (try simp only [Act.put, List.setIfInBounds_toArray, List.set_cons_zero, List.set_cons_succ])
        (first | (refine take_held (i := 11) (d := (some 113)) (v := ?_) rfl rfl (by kernel_rfl) (by kernel_rfl) (by kernel_rfl) (fun _ _ _ h => h) (Or.inl ⟨by rfl, ?_⟩) (by assumption) ?_; rotate_left 1; focus ((intro w hSw; (try dsimp only at hSw); first | (go_simp; done) | (go_simp; with_reducible rfl)); done); (try simp only [Act.put, List.setIfInBounds_toArray, List.set_cons_zero, List.set_cons_succ])) | (refine take_held (i := 11) (d := (some 113)) (v := undef) rfl rfl (by kernel_rfl) (by kernel_rfl) (by kernel_rfl) (fun _ _ _ h => h) (Or.inr ⟨by rfl, rfl⟩) (by assumption) ?_; (try simp only [Act.put, List.setIfInBounds_toArray, List.set_cons_zero, List.set_cons_succ])))
        (try simp only [Act.put, List.setIfInBounds_toArray, List.set_cons_zero, List.set_cons_succ])
        (first | (refine take_held (i := 12) (d := (some 114)) (v := ?_) rfl rfl (by kernel_rfl) (by kernel_rfl) (by kernel_rfl) (fun _ _ _ h => h) (Or.inl ⟨by rfl, ?_⟩) (by assumption) ?_; rotate_left 1; focus ((intro w hSw; (try dsimp only at hSw); first | (go_simp; done) | (go_simp; with_reducible rfl)); done); (try simp only [Act.put, List.setIfInBounds_toArray, List.set_cons_zero, List.set_cons_succ])) | (refine take_held (i := 12) (d := (some 114)) (v := undef) rfl rfl (by kernel_rfl) (by kernel_rfl) (by kernel_rfl) (fun _ _ _ h => h) (Or.inr ⟨by rfl, rfl⟩) (by assumption) ?_; (try simp only [Act.put, List.setIfInBounds_toArray, List.set_cons_zero, List.set_cons_succ])))
        (try simp only [Act.put, List.setIfInBounds_toArray, List.set_cons_zero, List.set_cons_succ])
        (first | (refine take_held (i := 13) (d := (some 115)) (v := ?_) rfl rfl (by kernel_rfl) (by kernel_rfl) (by kernel_rfl) (fun _ _ _ h => h) (Or.inl ⟨by rfl, ?_⟩) (by assumption) ?_; rotate_left 1; focus ((intro w hSw; (try dsimp only at hSw); first | (go_simp; done) | (go_simp; with_reducible rfl)); done); (try simp only [Act.put, List.setIfInBounds_toArray, List.set_cons_zero, List.set_cons_succ])))
        (try simp only [Act.put, List.setIfInBounds_toArray, List.set_cons_zero, List.set_cons_succ])
        (first | (refine take_held (i := 14) (d := (some 116)) (v := ?_) rfl rfl (by kernel_rfl) (by kernel_rfl) (by kernel_rfl) (fun _ _ _ h => h) (Or.inl ⟨by rfl, ?_⟩) (by assumption) ?_; rotate_left 1; focus ((intro w hSw; (try dsimp only at hSw); first | (go_simp; done) | (go_simp; with_reducible rfl)); done); (try simp only [Act.put, List.setIfInBounds_toArray, List.set_cons_zero, List.set_cons_succ])))
        (try simp only [Act.put, List.setIfInBounds_toArray, List.set_cons_zero, List.set_cons_succ])
        (first | (refine take_held (i := 15) (d := (some 117)) (v := ?_) rfl rfl (by kernel_rfl) (by kernel_rfl) (by kernel_rfl) (fun _ _ _ h => h) (Or.inl ⟨by rfl, ?_⟩) (by assumption) ?_; rotate_left 1; focus ((intro w hSw; (try dsimp only at hSw); first | (go_simp; done) | (go_simp; with_reducible rfl)); done); (try simp only [Act.put, List.setIfInBounds_toArray, List.set_cons_zero, List.set_cons_succ])) | (refine take_held (i := 15) (d := (some 117)) (v := undef) rfl rfl (by kernel_rfl) (by kernel_rfl) (by kernel_rfl) (fun _ _ _ h => h) (Or.inr ⟨by rfl, rfl⟩) (by assumption) ?_; (try simp only [Act.put, List.setIfInBounds_toArray, List.set_cons_zero, List.set_cons_succ])))
        (try simp only [Act.put, List.setIfInBounds_toArray, List.set_cons_zero, List.set_cons_succ])
        (first | (refine take_held (i := 16) (d := (some 118)) (v := ?_) rfl rfl (by kernel_rfl) (by kernel_rfl) (by kernel_rfl) (fun _ _ _ h => h) (Or.inl ⟨by rfl, ?_⟩) (by assumption) ?_; rotate_left 1; focus ((intro w hSw; (try dsimp only at hSw); first | (go_simp; done) | (go_simp; with_reducible rfl)); done); (try simp only [Act.put, List.setIfInBounds_toArray, List.set_cons_zero, List.set_cons_succ])) | (refine take_held (i := 16) (d := (some 118)) (v := undef) rfl rfl (by kernel_rfl) (by kernel_rfl) (by kernel_rfl) (fun _ _ _ h => h) (Or.inr ⟨by rfl, rfl⟩) (by assumption) ?_; (try simp only [Act.put, List.setIfInBounds_toArray, List.set_cons_zero, List.set_cons_succ])))
        (try simp only [Act.put, List.setIfInBounds_toArray, List.set_cons_zero, List.set_cons_succ])
        (first
          | (refine take_held (i := 17) (d := (some 119)) (v := undef) rfl rfl (by kernel_rfl) (by kernel_rfl) (by kernel_rfl) (fun _ _ _ h => h) (Or.inr ⟨by rfl, rfl⟩) (by assumption) ?_; (try simp only [Act.put, List.setIfInBounds_toArray, List.set_cons_zero, List.set_cons_succ]))
          | (refine wpAnyH_ready (rs := [17]) (by kernel_rfl) (by simp) ?_; refine AllReadyH.cons (o := _) rfl (fun K hK => ?_) AllReadyH.nil; go_simp; (go_at_call 27; refine (saysV ou _ _ _ _ _ _ _ _ _ _ _ _ _ (hJ.below (And.left hHeld)) (hU.below (And.left hHeld))).mono ?_; rintro e_ wB ⟨rfl, hbB⟩); (try go_wp2_with fail); refine hK.out _ _ (by (try dsimp only); ((refine and_of (fun hB_ => ⟨cell_up hB_ Xc1, cell_up hB_ Xc2, cell_up hB_ Xc3, cell_up hB_ Xc4, cell_up hB_ Xc5, cell_up hB_ Xc6, cell_up hB_ Xc7, cell_up hB_ Xc8, cell_up hB_ Xc9, cell_up hB_ Xc10, cell_up hB_ Tc0, cell_up hB_ Tc1, cell_up hB_ Tc2, cell_up hB_ Tc3, cell_up hB_ Tc4, cell_up hB_ Uc0, cell_up hB_ Uc1, cell_up hB_ Uc2, cell_up hB_ Uc3, cell_up hB_ Uc4, cell_up hB_ Uc5, cell_up hB_ Uc6, cell_up hB_ Uc7, cell_up hB_ Uc8, cell_up hB_ Uc9, cell_up hB_ Gc0, cell_up hB_ Gc1, cell_up hB_ Gc2, cell_up hB_ Gc3, cell_up hB_ Gc4, cell_up hB_ Gc5, cell_up hB_ Gc6, cell_up hB_ Gc7, cell_up hB_ Gc8, cell_up hB_ Gc9, cell_up hB_ Jc0, cell_up hB_ Jc1, cell_up hB_ Jc2, cell_up hB_ Jc3, cell_up hB_ Jc4, cell_up hB_ Jc5, cell_up hB_ Jc6, cell_up hB_ Jc7, cell_up hB_ Jc8, cell_up hB_ Jc9⟩) ?_; first | (with_reducible exact (Below.refl _ _).drew) | (with_reducible exact below_call' (And.left hHeld) hbB) | (with_reducible exact And.left (by assumption))))) ?_; clear hHeld hK K; intro hHeld; (try simp only [Act.put, List.setIfInBounds_toArray, List.set_cons_zero, List.set_cons_succ])))
        (first | (refine take_held (i := 18) (d := (some 120)) (v := ?_) rfl rfl (by kernel_rfl) (by kernel_rfl) (by kernel_rfl) (fun _ _ _ h => h) (Or.inl ⟨by rfl, ?_⟩) (by assumption) ?_; rotate_left 1; focus ((intro w hSw; (try dsimp only at hSw); first | (go_simp; done) | (go_simp; with_reducible rfl)); done); (try simp only [Act.put, List.setIfInBounds_toArray, List.set_cons_zero, List.set_cons_succ])) | (refine take_held (i := 18) (d := (some 120)) (v := undef) rfl rfl (by kernel_rfl) (by kernel_rfl) (by kernel_rfl) (fun _ _ _ h => h) (Or.inr ⟨by rfl, rfl⟩) (by assumption) ?_; (try simp only [Act.put, List.setIfInBounds_toArray, List.set_cons_zero, List.set_cons_succ])))
        (try simp only [Act.put, List.setIfInBounds_toArray, List.set_cons_zero, List.set_cons_succ])
        (first | (refine take_held (i := 19) (d := (some 121)) (v := ?_) rfl rfl (by kernel_rfl) (by kernel_rfl) (by kernel_rfl) (fun _ _ _ h => h) (Or.inl ⟨by rfl, ?_⟩) (by assumption) ?_; rotate_left 1; focus ((intro w hSw; (try dsimp only at hSw); first | (go_simp; done) | (go_simp; with_reducible rfl)); done); (try simp only [Act.put, List.setIfInBounds_toArray, List.set_cons_zero, List.set_cons_succ])))
        (try simp only [Act.put, List.setIfInBounds_toArray, List.set_cons_zero, List.set_cons_succ])
        (first | (refine take_held (i := 20) (d := (some 122)) (v := ?_) rfl rfl (by kernel_rfl) (by kernel_rfl) (by kernel_rfl) (fun _ _ _ h => h) (Or.inl ⟨by rfl, ?_⟩) (by assumption) ?_; rotate_left 1; focus ((intro w hSw; (try dsimp only at hSw); first | (go_simp; done) | (go_simp; with_reducible rfl)); done); (try simp only [Act.put, List.setIfInBounds_toArray, List.set_cons_zero, List.set_cons_succ])))
        (try simp only [Act.put, List.setIfInBounds_toArray, List.set_cons_zero, List.set_cons_succ])
        (first | (refine take_held (i := 21) (d := (some 123)) (v := ?_) rfl rfl (by kernel_rfl) (by kernel_rfl) (by kernel_rfl) (fun _ _ _ h => h) (Or.inl ⟨by rfl, ?_⟩) (by assumption) ?_; rotate_left 1; focus ((intro w hSw; (try dsimp only at hSw); first | (go_simp; done) | (go_simp; with_reducible rfl)); done); (try simp only [Act.put, List.setIfInBounds_toArray, List.set_cons_zero, List.set_cons_succ])) | (refine take_held (i := 21) (d := (some 123)) (v := undef) rfl rfl (by kernel_rfl) (by kernel_rfl) (by kernel_rfl) (fun _ _ _ h => h) (Or.inr ⟨by rfl, rfl⟩) (by assumption) ?_; (try simp only [Act.put, List.setIfInBounds_toArray, List.set_cons_zero, List.set_cons_succ])))
        (try simp only [Act.put, List.setIfInBounds_toArray, List.set_cons_zero, List.set_cons_succ])
        (first | (refine take_held (i := 23) (d := (some 125)) (v := ?_) rfl rfl (by kernel_rfl) (by kernel_rfl) (by kernel_rfl) (fun _ _ _ h => h) (Or.inl ⟨by rfl, ?_⟩) (by assumption) ?_; rotate_left 1; focus ((intro w hSw; (try dsimp only at hSw); first | (go_simp; done) | (go_simp; with_reducible rfl)); done); (try simp only [Act.put, List.setIfInBounds_toArray, List.set_cons_zero, List.set_cons_succ])) | (refine take_held (i := 23) (d := (some 125)) (v := undef) rfl rfl (by kernel_rfl) (by kernel_rfl) (by kernel_rfl) (fun _ _ _ h => h) (Or.inr ⟨by rfl, rfl⟩) (by assumption) ?_; (try simp only [Act.put, List.setIfInBounds_toArray, List.set_cons_zero, List.set_cons_succ])))
        (try simp only [Act.put, List.setIfInBounds_toArray, List.set_cons_zero, List.set_cons_succ])
        (first
          | (refine take_held (i := 22) (d := (some 124)) (v := undef) rfl rfl (by kernel_rfl) (by kernel_rfl) (by kernel_rfl) (fun _ _ _ h => h) (Or.inr ⟨by rfl, rfl⟩) (by assumption) ?_; (try simp only [Act.put, List.setIfInBounds_toArray, List.set_cons_zero, List.set_cons_succ]))
          | (refine wpAnyH_ready (rs := [22]) (by kernel_rfl) (by simp) ?_; refine AllReadyH.cons (o := _) rfl (fun K hK => ?_) AllReadyH.nil; go_simp; (go_at_call 28; refine (len_n (hg.below (And.left hHeld)) ((l.length : Int) + 1) (by simp)).mono ?_; rintro e_ w_ ⟨rfl, rfl⟩); (try go_wp2_with fail); refine hK.out _ _ (by (try dsimp only); ((refine and_of (fun hB_ => ⟨cell_up hB_ Xc1, cell_up hB_ Xc2, cell_up hB_ Xc3, cell_up hB_ Xc4, cell_up hB_ Xc5, cell_up hB_ Xc6, cell_up hB_ Xc7, cell_up hB_ Xc8, cell_up hB_ Xc9, cell_up hB_ Xc10, cell_up hB_ Tc0, cell_up hB_ Tc1, cell_up hB_ Tc2, cell_up hB_ Tc3, cell_up hB_ Tc4, cell_up hB_ Uc0, cell_up hB_ Uc1, cell_up hB_ Uc2, cell_up hB_ Uc3, cell_up hB_ Uc4, cell_up hB_ Uc5, cell_up hB_ Uc6, cell_up hB_ Uc7, cell_up hB_ Uc8, cell_up hB_ Uc9, cell_up hB_ Gc0, cell_up hB_ Gc1, cell_up hB_ Gc2, cell_up hB_ Gc3, cell_up hB_ Gc4, cell_up hB_ Gc5, cell_up hB_ Gc6, cell_up hB_ Gc7, cell_up hB_ Gc8, cell_up hB_ Gc9, cell_up hB_ Jc0, cell_up hB_ Jc1, cell_up hB_ Jc2, cell_up hB_ Jc3, cell_up hB_ Jc4, cell_up hB_ Jc5, cell_up hB_ Jc6, cell_up hB_ Jc7, cell_up hB_ Jc8, cell_up hB_ Jc9⟩) ?_; first | (with_reducible exact (Below.refl _ _).drew) | (with_reducible exact below_call' (And.left (by assumption)) (by assumption)) | (with_reducible exact And.left (by assumption))))) ?_; clear hHeld hK K; intro hHeld; (try simp only [Act.put, List.setIfInBounds_toArray, List.set_cons_zero, List.set_cons_succ])))
        (first
          | (refine take_held (i := 24) (d := (some 126)) (v := undef) rfl rfl (by kernel_rfl) (by kernel_rfl) (by kernel_rfl) (fun _ _ _ h => h) (Or.inr ⟨by rfl, rfl⟩) (by assumption) ?_; (try simp only [Act.put, List.setIfInBounds_toArray, List.set_cons_zero, List.set_cons_succ]))
          | (refine wpAnyH_ready (rs := [24]) (by kernel_rfl) (by simp) ?_; refine AllReadyH.cons (o := _) rfl (fun K hK => ?_) AllReadyH.nil; go_simp; (go_at_call 28; refine (len_n (hf.below (And.left hHeld)) ((l.length : Int) + 1) (by simp)).mono ?_; rintro e_ w_ ⟨rfl, rfl⟩); (try go_wp2_with fail); refine hK.out _ _ (by (try dsimp only); ((refine and_of (fun hB_ => ⟨cell_up hB_ Xc1, cell_up hB_ Xc2, cell_up hB_ Xc3, cell_up hB_ Xc4, cell_up hB_ Xc5, cell_up hB_ Xc6, cell_up hB_ Xc7, cell_up hB_ Xc8, cell_up hB_ Xc9, cell_up hB_ Xc10, cell_up hB_ Tc0, cell_up hB_ Tc1, cell_up hB_ Tc2, cell_up hB_ Tc3, cell_up hB_ Tc4, cell_up hB_ Uc0, cell_up hB_ Uc1, cell_up hB_ Uc2, cell_up hB_ Uc3, cell_up hB_ Uc4, cell_up hB_ Uc5, cell_up hB_ Uc6, cell_up hB_ Uc7, cell_up hB_ Uc8, cell_up hB_ Uc9, cell_up hB_ Gc0, cell_up hB_ Gc1, cell_up hB_ Gc2, cell_up hB_ Gc3, cell_up hB_ Gc4, cell_up hB_ Gc5, cell_up hB_ Gc6, cell_up hB_ Gc7, cell_up hB_ Gc8, cell_up hB_ Gc9, cell_up hB_ Jc0, cell_up hB_ Jc1, cell_up hB_ Jc2, cell_up hB_ Jc3, cell_up hB_ Jc4, cell_up hB_ Jc5, cell_up hB_ Jc6, cell_up hB_ Jc7, cell_up hB_ Jc8, cell_up hB_ Jc9⟩) ?_; first | (with_reducible exact (Below.refl _ _).drew) | (with_reducible exact below_call' (And.left (by assumption)) (by assumption)) | (with_reducible exact And.left (by assumption))))) ?_; clear hHeld hK K; intro hHeld; (try simp only [Act.put, List.setIfInBounds_toArray, List.set_cons_zero, List.set_cons_succ])))
        (first | (refine take_held (i := 25) (d := (some 127)) (v := ?_) rfl rfl (by kernel_rfl) (by kernel_rfl) (by kernel_rfl) (fun _ _ _ h => h) (Or.inl ⟨by rfl, ?_⟩) (by assumption) ?_; rotate_left 1; focus ((intro w hSw; (try dsimp only at hSw); first | (go_simp; done) | (go_simp; with_reducible rfl)); done); (try simp only [Act.put, List.setIfInBounds_toArray, List.set_cons_zero, List.set_cons_succ])) | (refine take_held (i := 25) (d := (some 127)) (v := undef) rfl rfl (by kernel_rfl) (by kernel_rfl) (by kernel_rfl) (fun _ _ _ h => h) (Or.inr ⟨by rfl, rfl⟩) (by assumption) ?_; (try simp only [Act.put, List.setIfInBounds_toArray, List.set_cons_zero, List.set_cons_succ])))
        (try simp only [Act.put, List.setIfInBounds_toArray, List.set_cons_zero, List.set_cons_succ])
        (first | (refine take_held (i := 26) (d := (some 128)) (v := ?_) rfl rfl (by kernel_rfl) (by kernel_rfl) (by kernel_rfl) (fun _ _ _ h => h) (Or.inl ⟨by rfl, ?_⟩) (by assumption) ?_; rotate_left 1; focus ((intro w hSw; (try dsimp only at hSw); first | (go_simp; done) | (go_simp; with_reducible rfl)); done); (try simp only [Act.put, List.setIfInBounds_toArray, List.set_cons_zero, List.set_cons_succ])))
        (try simp only [Act.put, List.setIfInBounds_toArray, List.set_cons_zero, List.set_cons_succ])
        (first | (refine take_held (i := 27) (d := (some 129)) (v := ?_) rfl rfl (by kernel_rfl) (by kernel_rfl) (by kernel_rfl) (fun _ _ _ h => h) (Or.inl ⟨by rfl, ?_⟩) (by assumption) ?_; rotate_left 1; focus ((intro w hSw; (try dsimp only at hSw); first | (go_simp; done) | (go_simp; with_reducible rfl)); done); (try simp only [Act.put, List.setIfInBounds_toArray, List.set_cons_zero, List.set_cons_succ])))
        (try simp only [Act.put, List.setIfInBounds_toArray, List.set_cons_zero, List.set_cons_succ])
        (first | (refine take_held (i := 28) (d := (some 130)) (v := ?_) rfl rfl (by kernel_rfl) (by kernel_rfl) (by kernel_rfl) (fun _ _ _ h => h) (Or.inl ⟨by rfl, ?_⟩) (by assumption) ?_; rotate_left 1; focus ((intro w hSw; (try dsimp only at hSw); first | (go_simp; done) | (go_simp; with_reducible rfl)); done); (try simp only [Act.put, List.setIfInBounds_toArray, List.set_cons_zero, List.set_cons_succ])) | (refine take_held (i := 28) (d := (some 130)) (v := undef) rfl rfl (by kernel_rfl) (by kernel_rfl) (by kernel_rfl) (fun _ _ _ h => h) (Or.inr ⟨by rfl, rfl⟩) (by assumption) ?_; (try simp only [Act.put, List.setIfInBounds_toArray, List.set_cons_zero, List.set_cons_succ])))
        (try simp only [Act.put, List.setIfInBounds_toArray, List.set_cons_zero, List.set_cons_succ])
        (first | (refine take_held (i := 29) (d := (some 131)) (v := ?_) rfl rfl (by kernel_rfl) (by kernel_rfl) (by kernel_rfl) (fun _ _ _ h => h) (Or.inl ⟨by rfl, ?_⟩) (by assumption) ?_; rotate_left 1; focus ((intro w hSw; (try dsimp only at hSw); first | (go_simp; done) | (go_simp; with_reducible rfl)); done); (try simp only [Act.put, List.setIfInBounds_toArray, List.set_cons_zero, List.set_cons_succ])) | (refine take_held (i := 29) (d := (some 131)) (v := undef) rfl rfl (by kernel_rfl) (by kernel_rfl) (by kernel_rfl) (fun _ _ _ h => h) (Or.inr ⟨by rfl, rfl⟩) (by assumption) ?_; (try simp only [Act.put, List.setIfInBounds_toArray, List.set_cons_zero, List.set_cons_succ])))
        (try simp only [Act.put, List.setIfInBounds_toArray, List.set_cons_zero, List.set_cons_succ])
        (first | (refine take_held (i := 31) (d := (some 133)) (v := ?_) rfl rfl (by kernel_rfl) (by kernel_rfl) (by kernel_rfl) (fun _ _ _ h => h) (Or.inl ⟨by rfl, ?_⟩) (by assumption) ?_; rotate_left 1; focus ((intro w hSw; (try dsimp only at hSw); first | (go_simp; done) | (go_simp; with_reducible rfl)); done); (try simp only [Act.put, List.setIfInBounds_toArray, List.set_cons_zero, List.set_cons_succ])) | (refine take_held (i := 31) (d := (some 133)) (v := undef) rfl rfl (by kernel_rfl) (by kernel_rfl) (by kernel_rfl) (fun _ _ _ h => h) (Or.inr ⟨by rfl, rfl⟩) (by assumption) ?_; (try simp only [Act.put, List.setIfInBounds_toArray, List.set_cons_zero, List.set_cons_succ])))
        (try simp only [Act.put, List.setIfInBounds_toArray, List.set_cons_zero, List.set_cons_succ])
        (first | (refine take_held (i := 32) (d := (some 134)) (v := ?_) rfl rfl (by kernel_rfl) (by kernel_rfl) (by kernel_rfl) (fun _ _ _ h => h) (Or.inl ⟨by rfl, ?_⟩) (by assumption) ?_; rotate_left 1; focus ((intro w hSw; (try dsimp only at hSw); first | (go_simp; done) | (go_simp; with_reducible rfl)); done); (try simp only [Act.put, List.setIfInBounds_toArray, List.set_cons_zero, List.set_cons_succ])) | (refine take_held (i := 32) (d := (some 134)) (v := undef) rfl rfl (by kernel_rfl) (by kernel_rfl) (by kernel_rfl) (fun _ _ _ h => h) (Or.inr ⟨by rfl, rfl⟩) (by assumption) ?_; (try simp only [Act.put, List.setIfInBounds_toArray, List.set_cons_zero, List.set_cons_succ])))
        (try simp only [Act.put, List.setIfInBounds_toArray, List.set_cons_zero, List.set_cons_succ])
        (first
          | (refine take_held (i := 30) (d := (some 132)) (v := undef) rfl rfl (by kernel_rfl) (by kernel_rfl) (by kernel_rfl) (fun _ _ _ h => h) (Or.inr ⟨by rfl, rfl⟩) (by assumption) ?_; (try simp only [Act.put, List.setIfInBounds_toArray, List.set_cons_zero, List.set_cons_succ]))
          | (refine wpAnyH_ready (rs := [30]) (by kernel_rfl) (by simp) ?_; refine AllReadyH.cons (o := _) rfl (fun K hK => ?_) AllReadyH.nil; go_simp; (go_at_call 29; refine (close_c t names b ec (hq.below (And.left hHeld)) (hT.below (And.left hHeld)) (ht.below (And.left hHeld))).mono ?_; rintro e_ wC ⟨C3, e3, C4, e4, rfl, hc, hbC⟩); (try go_wp2_with fail); refine hK.out _ _ (by (try dsimp only); ((refine and_of (fun hB_ => ⟨cell_up hB_ Xc1, cell_up hB_ Xc2, cell_up hB_ Xc3, cell_up hB_ Xc4, cell_up hB_ Xc5, cell_up hB_ Xc6, cell_up hB_ Xc7, cell_up hB_ Xc8, cell_up hB_ Xc9, cell_up hB_ Xc10, cell_up hB_ Tc0, cell_up hB_ Tc1, cell_up hB_ Tc2, cell_up hB_ Tc3, cell_up hB_ Tc4, cell_up hB_ Uc0, cell_up hB_ Uc1, cell_up hB_ Uc2, cell_up hB_ Uc3, cell_up hB_ Uc4, cell_up hB_ Uc5, cell_up hB_ Uc6, cell_up hB_ Uc7, cell_up hB_ Uc8, cell_up hB_ Uc9, cell_up hB_ Gc0, cell_up hB_ Gc1, cell_up hB_ Gc2, cell_up hB_ Gc3, cell_up hB_ Gc4, cell_up hB_ Gc5, cell_up hB_ Gc6, cell_up hB_ Gc7, cell_up hB_ Gc8, cell_up hB_ Gc9, cell_up hB_ Jc0, cell_up hB_ Jc1, cell_up hB_ Jc2, cell_up hB_ Jc3, cell_up hB_ Jc4, cell_up hB_ Jc5, cell_up hB_ Jc6, cell_up hB_ Jc7, cell_up hB_ Jc8, cell_up hB_ Jc9⟩) ?_; first | (with_reducible exact (Below.refl _ _).drew) | (with_reducible exact below_call' (And.left hHeld) hbC) | (with_reducible exact And.left (by assumption))))) ?_; clear hHeld hK K; intro hHeld; (try simp only [Act.put, List.setIfInBounds_toArray, List.set_cons_zero, List.set_cons_succ])))
        (first
          | (refine take_held (i := 33) (d := (some 135)) (v := undef) rfl rfl (by kernel_rfl) (by kernel_rfl) (by kernel_rfl) (fun _ _ _ h => h) (Or.inr ⟨by rfl, rfl⟩) (by assumption) ?_; (try simp only [Act.put, List.setIfInBounds_toArray, List.set_cons_zero, List.set_cons_succ]))
          | (refine wpAnyH_ready (rs := [33]) (by kernel_rfl) (by simp) ?_; refine AllReadyH.cons (o := _) rfl (fun K hK => ?_) AllReadyH.nil; go_simp; (go_at_call 29; refine (close_c t names b ec (hf.below (And.left hHeld)) (hT.below (And.left hHeld)) (ht.below (And.left hHeld))).mono ?_; rintro e_ wD ⟨D3, g3, D4, g4, rfl, hd, hbD⟩); (try go_wp2_with fail); refine hK.out _ _ (by (try dsimp only); ((refine and_of (fun hB_ => ⟨cell_up hB_ Xc1, cell_up hB_ Xc2, cell_up hB_ Xc3, cell_up hB_ Xc4, cell_up hB_ Xc5, cell_up hB_ Xc6, cell_up hB_ Xc7, cell_up hB_ Xc8, cell_up hB_ Xc9, cell_up hB_ Xc10, cell_up hB_ Tc0, cell_up hB_ Tc1, cell_up hB_ Tc2, cell_up hB_ Tc3, cell_up hB_ Tc4, cell_up hB_ Uc0, cell_up hB_ Uc1, cell_up hB_ Uc2, cell_up hB_ Uc3, cell_up hB_ Uc4, cell_up hB_ Uc5, cell_up hB_ Uc6, cell_up hB_ Uc7, cell_up hB_ Uc8, cell_up hB_ Uc9, cell_up hB_ Gc0, cell_up hB_ Gc1, cell_up hB_ Gc2, cell_up hB_ Gc3, cell_up hB_ Gc4, cell_up hB_ Gc5, cell_up hB_ Gc6, cell_up hB_ Gc7, cell_up hB_ Gc8, cell_up hB_ Gc9, cell_up hB_ Jc0, cell_up hB_ Jc1, cell_up hB_ Jc2, cell_up hB_ Jc3, cell_up hB_ Jc4, cell_up hB_ Jc5, cell_up hB_ Jc6, cell_up hB_ Jc7, cell_up hB_ Jc8, cell_up hB_ Jc9⟩) ?_; first | (with_reducible exact (Below.refl _ _).drew) | (with_reducible exact below_call' (And.left hHeld) hbD) | (with_reducible exact And.left (by assumption))))) ?_; clear hHeld hK K; intro hHeld; (try simp only [Act.put, List.setIfInBounds_toArray, List.set_cons_zero, List.set_cons_succ])))
        (first
          | (refine take_held (i := 34) (d := (some 136)) (v := undef) rfl rfl (by kernel_rfl) (by kernel_rfl) (by kernel_rfl) (fun _ _ _ h => h) (Or.inr ⟨by rfl, rfl⟩) (by assumption) ?_; (try simp only [Act.put, List.setIfInBounds_toArray, List.set_cons_zero, List.set_cons_succ]))
          | (refine wpAnyH_ready (rs := [34]) (by kernel_rfl) (by simp) ?_; refine AllReadyH.cons (o := _) rfl (fun K hK => ?_) AllReadyH.nil; go_simp; (go_at_call 16; refine (rsame_c ⟨r1, r2, r3, r4, r5⟩ ⟨r1, r2, r3, r4, r5⟩ ks true es (hc.below hbD) hd).mono ?_; rintro e_ wE ⟨rfl, hbE⟩); (try go_wp2_with fail); refine hK.out _ _ (by (try dsimp only); ((refine and_of (fun hB_ => ⟨cell_up hB_ Xc1, cell_up hB_ Xc2, cell_up hB_ Xc3, cell_up hB_ Xc4, cell_up hB_ Xc5, cell_up hB_ Xc6, cell_up hB_ Xc7, cell_up hB_ Xc8, cell_up hB_ Xc9, cell_up hB_ Xc10, cell_up hB_ Tc0, cell_up hB_ Tc1, cell_up hB_ Tc2, cell_up hB_ Tc3, cell_up hB_ Tc4, cell_up hB_ Uc0, cell_up hB_ Uc1, cell_up hB_ Uc2, cell_up hB_ Uc3, cell_up hB_ Uc4, cell_up hB_ Uc5, cell_up hB_ Uc6, cell_up hB_ Uc7, cell_up hB_ Uc8, cell_up hB_ Uc9, cell_up hB_ Gc0, cell_up hB_ Gc1, cell_up hB_ Gc2, cell_up hB_ Gc3, cell_up hB_ Gc4, cell_up hB_ Gc5, cell_up hB_ Gc6, cell_up hB_ Gc7, cell_up hB_ Gc8, cell_up hB_ Gc9, cell_up hB_ Jc0, cell_up hB_ Jc1, cell_up hB_ Jc2, cell_up hB_ Jc3, cell_up hB_ Jc4, cell_up hB_ Jc5, cell_up hB_ Jc6, cell_up hB_ Jc7, cell_up hB_ Jc8, cell_up hB_ Jc9⟩) ?_; first | (with_reducible exact (Below.refl _ _).drew) | (with_reducible exact below_call' (And.left hHeld) hbE) | (with_reducible exact And.left (by assumption))))) ?_; clear hHeld hK K; intro hHeld; (try simp only [Act.put, List.setIfInBounds_toArray, List.set_cons_zero, List.set_cons_succ])))
        (first | (refine take_held (i := 35) (d := (some 137)) (v := ?_) rfl rfl (by kernel_rfl) (by kernel_rfl) (by kernel_rfl) (fun _ _ _ h => h) (Or.inl ⟨by rfl, ?_⟩) (by assumption) ?_; rotate_left 1; focus ((intro w hSw; (try dsimp only at hSw); first | (go_simp; done) | (go_simp; with_reducible rfl)); done); (try simp only [Act.put, List.setIfInBounds_toArray, List.set_cons_zero, List.set_cons_succ])) | (refine take_held (i := 35) (d := (some 137)) (v := undef) rfl rfl (by kernel_rfl) (by kernel_rfl) (by kernel_rfl) (fun _ _ _ h => h) (Or.inr ⟨by rfl, rfl⟩) (by assumption) ?_; (try simp only [Act.put, List.setIfInBounds_toArray, List.set_cons_zero, List.set_cons_succ])))
        (try simp only [Act.put, List.setIfInBounds_toArray, List.set_cons_zero, List.set_cons_succ])
        (first | (refine take_held (i := 36) (d := (some 138)) (v := ?_) rfl rfl (by kernel_rfl) (by kernel_rfl) (by kernel_rfl) (fun _ _ _ h => h) (Or.inl ⟨by rfl, ?_⟩) (by assumption) ?_; rotate_left 1; focus ((intro w hSw; (try dsimp only at hSw); first | (go_simp; done) | (go_simp; with_reducible rfl)); done); (try simp only [Act.put, List.setIfInBounds_toArray, List.set_cons_zero, List.set_cons_succ])))
        (try simp only [Act.put, List.setIfInBounds_toArray, List.set_cons_zero, List.set_cons_succ])
        (try simp only [Act.put, List.setIfInBounds_toArray, List.set_cons_zero, List.set_cons_succ])
        refine wpAnyH_done (by kernel_rfl) ?_ _
        have bW := And.left hHeld
        clear hHeld
        clear Xc0 Xc1 Xc2 Xc3 Xc4 Xc5 Xc6 Xc7 Xc8 Xc9 Xc10 Xf0 Xf1 Xf2 Xf3 Xf4 Xf5 Xf6 Xf7 Xf8 Xf9 Xf10 Xl Tc0 Tc1 Tc2 Tc3 Tc4 Tf0 Tf1 Tf2 Tf3 Tf4 Tl Uc0 Uc1 Uc2 Uc3 Uc4 Uc5 Uc6 Uc7 Uc8 Uc9 Uf0 Uf1 Uf2 Uf3 Uf4 Uf5 Uf6 Uf7 Uf8 Uf9 Ul Gc0 Gc1 Gc2 Gc3 Gc4 Gc5 Gc6 Gc7 Gc8 Gc9 Gf0 Gf1 Gf2 Gf3 Gf4 Gf5 Gf6 Gf7 Gf8 Gf9 Gl Hc0 Hc1 Hc2 Hc3 Hc4 Hc5 Hc6 Hc7 Hc8 Hc9 Hf0 Hf1 Hf2 Hf3 Hf4 Hf5 Hf6 Hf7 Hf8 Hf9 Hl Jc0 Jc1 Jc2 Jc3 Jc4 Jc5 Jc6 Jc7 Jc8 Jc9 Jf0 Jf1 Jf2 Jf3 Jf4 Jf5 Jf6 Jf7 Jf8 Jf9 Jl
        have b_21 := chain b_20 bW
        replace kX := blk_below kX bW
        replace kT := blk_below kT bW
        replace kU := blk_below kU bW
        replace kG := blk_below kG bW
        replace kH := blk_below kH bW
        replace kJ := blk_below kJ bW
        replace hN := hN.below bW
        replace hL := hL.below bW
        replace hx := hx.below bW
        replace ht := ht.below bW
        replace hT := hT.below bW
        replace hq := hq.below bW
        replace hU := hU.below bW
        replace hf := hf.below bW
        replace hg := hg.below bW
        replace hG := hG.below bW
        replace hH := hH.below bW
        replace hJ := hJ.below bW
        clear b_20
        clear bW
        cases hxs : eqText x.f0 s with
        | true =>
          have hsb : (s.toList == x.f0.toList) = true := by rw [eqText_flip]; exact hxs
          clear hxs
          obtain ⟨⟨Xc0, Xc1, Xc2, Xc3, Xc4, Xc5, Xc6, Xc7, Xc8, Xc9, Xc10⟩, ⟨Xf0, Xf1, Xf2, Xf3, Xf4, Xf5, Xf6, Xf7, Xf8, Xf9, Xf10⟩, Xl⟩ := eleven kX
          obtain ⟨⟨Tc0, Tc1, Tc2, Tc3, Tc4⟩, ⟨Tf0, Tf1, Tf2, Tf3, Tf4⟩, Tl⟩ := five kT
          obtain ⟨⟨Uc0, Uc1, Uc2, Uc3, Uc4, Uc5, Uc6, Uc7, Uc8, Uc9⟩, ⟨Uf0, Uf1, Uf2, Uf3, Uf4, Uf5, Uf6, Uf7, Uf8, Uf9⟩, Ul⟩ := ten kU
          obtain ⟨⟨Gc0, Gc1, Gc2, Gc3, Gc4, Gc5, Gc6, Gc7, Gc8, Gc9⟩, ⟨Gf0, Gf1, Gf2, Gf3, Gf4, Gf5, Gf6, Gf7, Gf8, Gf9⟩, Gl⟩ := ten kG
          obtain ⟨⟨Hc0, Hc1, Hc2, Hc3, Hc4, Hc5, Hc6, Hc7, Hc8, Hc9⟩, ⟨Hf0, Hf1, Hf2, Hf3, Hf4, Hf5, Hf6, Hf7, Hf8, Hf9⟩, Hl⟩ := ten kH
          obtain ⟨⟨Jc0, Jc1, Jc2, Jc3, Jc4, Jc5, Jc6, Jc7, Jc8, Jc9⟩, ⟨Jf0, Jf1, Jf2, Jf3, Jf4, Jf5, Jf6, Jf7, Jf8, Jf9⟩, Jl⟩ := ten kJ
          go_wp2_with fail
          refine (awake_c _).mono ?_
          rintro e_ w_ ⟨rfl, hb⟩
          clear Xc0 Xc1 Xc2 Xc3 Xc4 Xc5 Xc6 Xc7 Xc8 Xc9 Xc10 Xf0 Xf1 Xf2 Xf3 Xf4 Xf5 Xf6 Xf7 Xf8 Xf9 Xf10 Xl Tc0 Tc1 Tc2 Tc3 Tc4 Tf0 Tf1 Tf2 Tf3 Tf4 Tl Uc0 Uc1 Uc2 Uc3 Uc4 Uc5 Uc6 Uc7 Uc8 Uc9 Uf0 Uf1 Uf2 Uf3 Uf4 Uf5 Uf6 Uf7 Uf8 Uf9 Ul Gc0 Gc1 Gc2 Gc3 Gc4 Gc5 Gc6 Gc7 Gc8 Gc9 Gf0 Gf1 Gf2 Gf3 Gf4 Gf5 Gf6 Gf7 Gf8 Gf9 Gl Hc0 Hc1 Hc2 Hc3 Hc4 Hc5 Hc6 Hc7 Hc8 Hc9 Hf0 Hf1 Hf2 Hf3 Hf4 Hf5 Hf6 Hf7 Hf8 Hf9 Hl Jc0 Jc1 Jc2 Jc3 Jc4 Jc5 Jc6 Jc7 Jc8 Jc9 Jf0 Jf1 Jf2 Jf3 Jf4 Jf5 Jf6 Jf7 Jf8 Jf9 Jl
          have b_22 := chain b_21 hb
          replace kX := blk_below kX hb
          replace kT := blk_below kT hb
          replace kU := blk_below kU hb
          replace kG := blk_below kG hb
          replace kH := blk_below kH hb
          replace kJ := blk_below kJ hb
          replace hN := hN.below hb
          replace hL := hL.below hb
          replace hx := hx.below hb
          replace ht := ht.below hb
          replace hT := hT.below hb
          replace hq := hq.below hb
          replace hU := hU.below hb
          replace hf := hf.below hb
          replace hg := hg.below hb
          replace hG := hG.below hb
          replace hH := hH.below hb
          replace hJ := hJ.below hb
          clear b_21
          clear hb
          obtain ⟨⟨Xc0, Xc1, Xc2, Xc3, Xc4, Xc5, Xc6, Xc7, Xc8, Xc9, Xc10⟩, ⟨Xf0, Xf1, Xf2, Xf3, Xf4, Xf5, Xf6, Xf7, Xf8, Xf9, Xf10⟩, Xl⟩ := eleven kX
          obtain ⟨⟨Tc0, Tc1, Tc2, Tc3, Tc4⟩, ⟨Tf0, Tf1, Tf2, Tf3, Tf4⟩, Tl⟩ := five kT
          obtain ⟨⟨Uc0, Uc1, Uc2, Uc3, Uc4, Uc5, Uc6, Uc7, Uc8, Uc9⟩, ⟨Uf0, Uf1, Uf2, Uf3, Uf4, Uf5, Uf6, Uf7, Uf8, Uf9⟩, Ul⟩ := ten kU
          obtain ⟨⟨Gc0, Gc1, Gc2, Gc3, Gc4, Gc5, Gc6, Gc7, Gc8, Gc9⟩, ⟨Gf0, Gf1, Gf2, Gf3, Gf4, Gf5, Gf6, Gf7, Gf8, Gf9⟩, Gl⟩ := ten kG
          obtain ⟨⟨Hc0, Hc1, Hc2, Hc3, Hc4, Hc5, Hc6, Hc7, Hc8, Hc9⟩, ⟨Hf0, Hf1, Hf2, Hf3, Hf4, Hf5, Hf6, Hf7, Hf8, Hf9⟩, Hl⟩ := ten kH
          obtain ⟨⟨Jc0, Jc1, Jc2, Jc3, Jc4, Jc5, Jc6, Jc7, Jc8, Jc9⟩, ⟨Jf0, Jf1, Jf2, Jf3, Jf4, Jf5, Jf6, Jf7, Jf8, Jf9⟩, Jl⟩ := ten kJ
          go_wp2
          go_ret
          exact ⟨rfl, b_22⟩
        | false =>
          obtain ⟨rfl, rfl⟩ := TAIL.out hxs
          have hsb : (s.toList == x.f0.toList) = false := by rw [eqText_flip]; exact hxs
          clear hxs
          obtain ⟨⟨Xc0, Xc1, Xc2, Xc3, Xc4, Xc5, Xc6, Xc7, Xc8, Xc9, Xc10⟩, ⟨Xf0, Xf1, Xf2, Xf3, Xf4, Xf5, Xf6, Xf7, Xf8, Xf9, Xf10⟩, Xl⟩ := eleven kX
          obtain ⟨⟨Tc0, Tc1, Tc2, Tc3, Tc4⟩, ⟨Tf0, Tf1, Tf2, Tf3, Tf4⟩, Tl⟩ := five kT
          obtain ⟨⟨Uc0, Uc1, Uc2, Uc3, Uc4, Uc5, Uc6, Uc7, Uc8, Uc9⟩, ⟨Uf0, Uf1, Uf2, Uf3, Uf4, Uf5, Uf6, Uf7, Uf8, Uf9⟩, Ul⟩ := ten kU
          obtain ⟨⟨Gc0, Gc1, Gc2, Gc3, Gc4, Gc5, Gc6, Gc7, Gc8, Gc9⟩, ⟨Gf0, Gf1, Gf2, Gf3, Gf4, Gf5, Gf6, Gf7, Gf8, Gf9⟩, Gl⟩ := ten kG
          obtain ⟨⟨Hc0, Hc1, Hc2, Hc3, Hc4, Hc5, Hc6, Hc7, Hc8, Hc9⟩, ⟨Hf0, Hf1, Hf2, Hf3, Hf4, Hf5, Hf6, Hf7, Hf8, Hf9⟩, Hl⟩ := ten kH
          obtain ⟨⟨Jc0, Jc1, Jc2, Jc3, Jc4, Jc5, Jc6, Jc7, Jc8, Jc9⟩, ⟨Jf0, Jf1, Jf2, Jf3, Jf4, Jf5, Jf6, Jf7, Jf8, Jf9⟩, Jl⟩ := ten kJ
          go_wp2_with fail
          refine (saysV ou _ _ _ _ _ _ _ _ _ _ _ _ _ hH hU).mono ?_
          rintro e_ w_ ⟨rfl, hb⟩
          clear Xc0 Xc1 Xc2 Xc3 Xc4 Xc5 Xc6 Xc7 Xc8 Xc9 Xc10 Xf0 Xf1 Xf2 Xf3 Xf4 Xf5 Xf6 Xf7 Xf8 Xf9 Xf10 Xl Tc0 Tc1 Tc2 Tc3 Tc4 Tf0 Tf1 Tf2 Tf3 Tf4 Tl Uc0 Uc1 Uc2 Uc3 Uc4 Uc5 Uc6 Uc7 Uc8 Uc9 Uf0 Uf1 Uf2 Uf3 Uf4 Uf5 Uf6 Uf7 Uf8 Uf9 Ul Gc0 Gc1 Gc2 Gc3 Gc4 Gc5 Gc6 Gc7 Gc8 Gc9 Gf0 Gf1 Gf2 Gf3 Gf4 Gf5 Gf6 Gf7 Gf8 Gf9 Gl Hc0 Hc1 Hc2 Hc3 Hc4 Hc5 Hc6 Hc7 Hc8 Hc9 Hf0 Hf1 Hf2 Hf3 Hf4 Hf5 Hf6 Hf7 Hf8 Hf9 Hl Jc0 Jc1 Jc2 Jc3 Jc4 Jc5 Jc6 Jc7 Jc8 Jc9 Jf0 Jf1 Jf2 Jf3 Jf4 Jf5 Jf6 Jf7 Jf8 Jf9 Jl
          have b_23 := chain b_21 hb
          replace kX := blk_below kX hb
          replace kT := blk_below kT hb
          replace kU := blk_below kU hb
          replace kG := blk_below kG hb
          replace kH := blk_below kH hb
          replace kJ := blk_below kJ hb
          replace hN := hN.below hb
          replace hL := hL.below hb
          replace hx := hx.below hb
          replace ht := ht.below hb
          replace hT := hT.below hb
          replace hq := hq.below hb
          replace hU := hU.below hb
          replace hf := hf.below hb
          replace hg := hg.below hb
          replace hG := hG.below hb
          replace hH := hH.below hb
          replace hJ := hJ.below hb
          clear b_21
          clear hb
          obtain ⟨⟨Xc0, Xc1, Xc2, Xc3, Xc4, Xc5, Xc6, Xc7, Xc8, Xc9, Xc10⟩, ⟨Xf0, Xf1, Xf2, Xf3, Xf4, Xf5, Xf6, Xf7, Xf8, Xf9, Xf10⟩, Xl⟩ := eleven kX
          obtain ⟨⟨Tc0, Tc1, Tc2, Tc3, Tc4⟩, ⟨Tf0, Tf1, Tf2, Tf3, Tf4⟩, Tl⟩ := five kT
          obtain ⟨⟨Uc0, Uc1, Uc2, Uc3, Uc4, Uc5, Uc6, Uc7, Uc8, Uc9⟩, ⟨Uf0, Uf1, Uf2, Uf3, Uf4, Uf5, Uf6, Uf7, Uf8, Uf9⟩, Ul⟩ := ten kU
          obtain ⟨⟨Gc0, Gc1, Gc2, Gc3, Gc4, Gc5, Gc6, Gc7, Gc8, Gc9⟩, ⟨Gf0, Gf1, Gf2, Gf3, Gf4, Gf5, Gf6, Gf7, Gf8, Gf9⟩, Gl⟩ := ten kG
          obtain ⟨⟨Hc0, Hc1, Hc2, Hc3, Hc4, Hc5, Hc6, Hc7, Hc8, Hc9⟩, ⟨Hf0, Hf1, Hf2, Hf3, Hf4, Hf5, Hf6, Hf7, Hf8, Hf9⟩, Hl⟩ := ten kH
          obtain ⟨⟨Jc0, Jc1, Jc2, Jc3, Jc4, Jc5, Jc6, Jc7, Jc8, Jc9⟩, ⟨Jf0, Jf1, Jf2, Jf3, Jf4, Jf5, Jf6, Jf7, Jf8, Jf9⟩, Jl⟩ := ten kJ
          go_wp2_with fail
          refine (awake_c _).mono ?_
          rintro e_ w_ ⟨rfl, hb⟩
          clear Xc0 Xc1 Xc2 Xc3 Xc4 Xc5 Xc6 Xc7 Xc8 Xc9 Xc10 Xf0 Xf1 Xf2 Xf3 Xf4 Xf5 Xf6 Xf7 Xf8 Xf9 Xf10 Xl Tc0 Tc1 Tc2 Tc3 Tc4 Tf0 Tf1 Tf2 Tf3 Tf4 Tl Uc0 Uc1 Uc2 Uc3 Uc4 Uc5 Uc6 Uc7 Uc8 Uc9 Uf0 Uf1 Uf2 Uf3 Uf4 Uf5 Uf6 Uf7 Uf8 Uf9 Ul Gc0 Gc1 Gc2 Gc3 Gc4 Gc5 Gc6 Gc7 Gc8 Gc9 Gf0 Gf1 Gf2 Gf3 Gf4 Gf5 Gf6 Gf7 Gf8 Gf9 Gl Hc0 Hc1 Hc2 Hc3 Hc4 Hc5 Hc6 Hc7 Hc8 Hc9 Hf0 Hf1 Hf2 Hf3 Hf4 Hf5 Hf6 Hf7 Hf8 Hf9 Hl Jc0 Jc1 Jc2 Jc3 Jc4 Jc5 Jc6 Jc7 Jc8 Jc9 Jf0 Jf1 Jf2 Jf3 Jf4 Jf5 Jf6 Jf7 Jf8 Jf9 Jl
          have b_24 := chain b_23 hb
          replace kX := blk_below kX hb
          replace kT := blk_below kT hb
          replace kU := blk_below kU hb
          replace kG := blk_below kG hb
          replace kH := blk_below kH hb
          replace kJ := blk_below kJ hb
          replace hN := hN.below hb
          replace hL := hL.below hb
          replace hx := hx.below hb
          replace ht := ht.below hb
          replace hT := hT.below hb
          replace hq := hq.below hb
          replace hU := hU.below hb
          replace hf := hf.below hb
          replace hg := hg.below hb
          replace hG := hG.below hb
          replace hH := hH.below hb
          replace hJ := hJ.below hb
          clear b_23
          clear hb
          obtain ⟨⟨Xc0, Xc1, Xc2, Xc3, Xc4, Xc5, Xc6, Xc7, Xc8, Xc9, Xc10⟩, ⟨Xf0, Xf1, Xf2, Xf3, Xf4, Xf5, Xf6, Xf7, Xf8, Xf9, Xf10⟩, Xl⟩ := eleven kX
          obtain ⟨⟨Tc0, Tc1, Tc2, Tc3, Tc4⟩, ⟨Tf0, Tf1, Tf2, Tf3, Tf4⟩, Tl⟩ := five kT
          obtain ⟨⟨Uc0, Uc1, Uc2, Uc3, Uc4, Uc5, Uc6, Uc7, Uc8, Uc9⟩, ⟨Uf0, Uf1, Uf2, Uf3, Uf4, Uf5, Uf6, Uf7, Uf8, Uf9⟩, Ul⟩ := ten kU
          obtain ⟨⟨Gc0, Gc1, Gc2, Gc3, Gc4, Gc5, Gc6, Gc7, Gc8, Gc9⟩, ⟨Gf0, Gf1, Gf2, Gf3, Gf4, Gf5, Gf6, Gf7, Gf8, Gf9⟩, Gl⟩ := ten kG
          obtain ⟨⟨Hc0, Hc1, Hc2, Hc3, Hc4, Hc5, Hc6, Hc7, Hc8, Hc9⟩, ⟨Hf0, Hf1, Hf2, Hf3, Hf4, Hf5, Hf6, Hf7, Hf8, Hf9⟩, Hl⟩ := ten kH
          obtain ⟨⟨Jc0, Jc1, Jc2, Jc3, Jc4, Jc5, Jc6, Jc7, Jc8, Jc9⟩, ⟨Jf0, Jf1, Jf2, Jf3, Jf4, Jf5, Jf6, Jf7, Jf8, Jf9⟩, Jl⟩ := ten kJ
          go_wp2
          go_ret
          exact ⟨rfl, b_24⟩
end Go.Proofs.Ytalmhbiedkjpmaa.PEnvPlays

/-
  SitesStay: texts of this claim, put together by a program of this session. No conditions beyond what each lemma says.
-/
import Derived.Test.YtlenfmnkbepoiaazSitesStay21
namespace Go.Proofs.Ytlenfmnkbepoiaa.PSitesTell
open Go.RowKit Go.Proofs.YtlenfmnkbepoiaaW.Mine Go.Proofs.YtlenfmnkbepoiaaW.PrintWords Go.Proofs.YtlenfmnkbepoiaaW.PrintLast Go.Proofs.YtlenfmnkbepoiaaW.PrintMore
attribute [local go_sem] max2_int min2_int max_two min_two max_three min_three max_four min_four
set_option linter.unusedVariables false
set_option linter.unusedSimpArgs false
/-- Contracts as the laws call them. -/
theorem at_l (d : De) (ho : OkD d) (hs : Small d) (k : Nat) (hk : k < (sitesD d).length) {A1 A2 A3 A4 K4 K5 K6 : Option Addr} {c1 c2 c3 c4 k4 k5 k6 : Nat} {w : World} (h : RD w d A1 c1 A2 c2 A3 c3 A4 c4 K4 k4 K5 k5 K6 k6) :
    Calls Try.prog 13 #[dv d A1 c1 A2 c2 A3 c3 A4 c4 K4 k4 K5 k5 K6 k6, .int .i64 (k : Int)] w (RtOut ((sitesD d)[k].1, (sitesD d)[k].2, true) w) :=
  (at_c d ho.dok (k : Int) (Base := fun b => b < w.heap.size) (fun b hb => hb) h.fd).mono fun e w' ⟨A3, c3, A4, c4, he, hf, hb⟩ => by
    rw [atR_small d hs k hk] at he hf
    exact ⟨A3, c3, A4, c4, he, hf.rt, hb⟩
def PlOut (r : De × Bool) (w : World) (e : Ending) (w' : World) : Prop :=
  ∃ (X1 : Option Addr) (y1 : Nat) (X2 : Option Addr) (y2 : Nat) (X3 : Option Addr) (y3 : Nat) (X4 : Option Addr) (y4 : Nat) (Z4 : Option Addr) (m4 : Nat) (Z5 : Option Addr) (m5 : Nat) (Z6 : Option Addr) (m6 : Nat), e = .returned (.tuple #[dv r.1 X1 y1 X2 y2 X3 y3 X4 y4 Z4 m4 Z5 m5 Z6 m6, .bool r.2]) ∧ RD w' r.1 X1 y1 X2 y2 X3 y3 X4 y4 Z4 m4 Z5 m5 Z6 m6 ∧ Below w.heap.size w w'
theorem put_l (d : De) (ho : OkD d) (hs : Small d) (k : Nat) (hk : k < (sitesD d).length) (t : Ty) {A1 A2 A3 A4 K4 K5 K6 : Option Addr} {c1 c2 c3 c4 k4 k5 k6 : Nat} {T3 T4 : Option Addr} {e3 e4 : Nat} {w : World} (h : RD w d A1 c1 A2 c2 A3 c3 A4 c4 K4 k4 K5 k5 K6 k6) (ht : RT w t T3 e3 T4 e4) :
    Calls Try.prog 15 #[dv d A1 c1 A2 c2 A3 c3 A4 c4 K4 k4 K5 k5 K6 k6, .int .i64 (k : Int), tv t T3 e3 T4 e4] w (PlOut (turnD (putF (k : Int) t) d, true) w) :=
  (sput_c d ho.dok (k : Int) t (Base := fun b => b < w.heap.size) (fun b hb => hb) h.fd ht.ft).mono fun e w' ⟨X1, y1, X2, y2, X3, y3, X4, y4, Z4, m4, Z5, m5, Z6, m6, he, hf, hb⟩ => by
    rw [putR_small d hs t k hk] at he hf
    exact ⟨X1, y1, X2, y2, X3, y3, X4, y4, Z4, m4, Z5, m5, Z6, m6, he, hf.rd, hb⟩
theorem count_l (d : De) (ho : OkD d) (hs : Small d) {A1 A2 A3 A4 K4 K5 K6 : Option Addr} {c1 c2 c3 c4 k4 k5 k6 : Nat} {w : World} (h : RD w d A1 c1 A2 c2 A3 c3 A4 c4 K4 k4 K5 k5 K6 k6) :
    Calls Try.prog 19 #[dv d A1 c1 A2 c2 A3 c3 A4 c4 K4 k4 K5 k5 K6 k6] w fun e w' => e = .returned (.int .i64 ((sitesD d).length : Int)) ∧ Below w.heap.size w w' :=
  count_c2 d ho.dok hs.1 (Base := fun b => b < w.heap.size) (fun b hb => hb) h.fd
set_option maxHeartbeats 8000000 in
set_option maxRecDepth 100000 in
theorem stay_c (d : De) (k : Int) (t : Ty) (ho : OkD d) (hs : Small d) (hk0 : 0 ≤ k) (hk1 : k < 256) (ht : Okt t) {A1 A2 A3 A4 K4 K5 K6 : Option Addr} {c1 c2 c3 c4 k4 k5 k6 : Nat} {T3 T4 : Option Addr} {e3 e4 : Nat} {w : World} (hd : RD w d A1 c1 A2 c2 A3 c3 A4 c4 K4 k4 K5 k5 K6 k6) (hrt : RT w t T3 e3 T4 e4) :
    Calls Try.prog 4 #[dv d A1 c1 A2 c2 A3 c3 A4 c4 K4 k4 K5 k5 K6 k6, .int .u8 k, tv t T3 e3 T4 e4] w fun e w' => e = .returned (.bool true) ∧ Below w.heap.size w w' := by
  obtain ⟨kD, kT, b0, z0⟩ := twoA w (dcells d A1 c1 A2 c2 A3 c3 A4 c4 K4 k4 K5 k5 K6 k6) (tarr t T3 e3 T4 e4) 33 26
  have hd0 := hd.below b0
  have ht0 := hrt.below b0
  have HA := Aside0.mk (fun W => @awake17_c W)
  have HM1 := Aside0.mk (muchd d ho hd0)
  have HD0 := Aside0.mk (And.intro hd0 ht0)
  have HO := Aside0.mk (And.intro ho (And.intro hs ht))
  have HKD := Aside0.mk (And.intro kD kT)
  have B0 := Aside0.mk b0
  clear hd hrt hd0 ht0 ho hs ht b0 z0
  go_enter Try.func4, Try.ntmps4
  go_wp2_with (first
    | (refine wpList_load_row rfl 33 (.tmp 3) rfl (w.heap.size) rfl _ _ (0, 0) _ kD Try.underlying33 rfl (by kernel_rfl) ?_)
    | fail)
  refine HM1.out.mono ?_
  rintro e_ w1 ⟨r1, rfl, hb1⟩
  have B1 := Aside0.mk (B0.out.trans (hb1.mono B0.out.size))
  have HD1 := Aside0.mk (And.intro (HD0.out.1.below hb1) (HD0.out.2.below hb1))
  replace kD := blk_below kD hb1
  replace kT := blk_below kT hb1
  clear HM1 HKD HD0 B0 hb1
  by_cases hr1 : 600 < r1
  · have d1 : decide (600 < r1) = true := decide_eq_true hr1
    have d1' : decide (r1 > 600) = true := d1
    clear hr1
    go_wp2_with fail
    refine (HA.out _).mono ?_
    rintro e_ w2 ⟨rfl, hb2⟩
    have b2 := B1.out.trans (hb2.mono B1.out.size)
    go_wp2
    go_ret
    exact ⟨rfl, b2⟩
  have d1 : decide (600 < r1) = false := decide_eq_false hr1
  clear hr1
  obtain ⟨⟨t0, t1, t2, t3, t4⟩, -, lt⟩ := five kT
  go_wp2_with fail
  clear t0 t1 t2 t3 t4 lt
  refine (mucht t HO.out.2.2 _ _ _ _ _ HD1.out.2).mono ?_
  rintro e_ w2 ⟨r2, rfl, hb2⟩
  have B2 := Aside0.mk (B1.out.trans (hb2.mono B1.out.size))
  have HD2 := Aside0.mk (And.intro (HD1.out.1.below hb2) (HD1.out.2.below hb2))
  replace kD := blk_below kD hb2
  replace kT := blk_below kT hb2
  clear HD1 B1 hb2
  by_cases hr2 : 100 < r2
  · have d2 : decide (100 < r2) = true := decide_eq_true hr2
    clear hr2
    go_wp2_with fail
    refine (HA.out _).mono ?_
    rintro e_ w3 ⟨rfl, hb3⟩
    have b3 := B2.out.trans (hb3.mono B2.out.size)
    go_wp2
    go_ret
    exact ⟨rfl, b3⟩
  have d2 : decide (100 < r2) = false := decide_eq_false hr2
  clear hr2
  go_wp2_with (first
    | (refine wpList_load_row rfl 33 (.tmp 3) rfl (w.heap.size) rfl _ _ (0, 0) _ kD Try.underlying33 rfl (by kernel_rfl) ?_)
    | fail)
  refine (count_l d HO.out.1 HO.out.2.1 HD2.out.1).mono ?_
  rintro e_ w3 ⟨rfl, hb3⟩
  have B3 := Aside0.mk (B2.out.trans (hb3.mono B2.out.size))
  have HD3 := Aside0.mk (And.intro (HD2.out.1.below hb3) (HD2.out.2.below hb3))
  replace kD := blk_below kD hb3
  replace kT := blk_below kT hb3
  clear HD2 B2 hb3 d1 d2
  obtain ⟨n, hn⟩ : ∃ n, (sitesD d).length = n := ⟨_, rfl⟩
  rw [hn]
  have HN := Aside0.mk hn
  have hn0 : n ≠ 0 := by rw [← hn, sitesD_len]; omega
  have hn9 : n ≤ 1000000000000 := by have := HO.out.2.1.1; omega
  have e0 : ((n : Int) == 0) = false := beq_eq_false_iff_ne.2 (by omega)
  obtain ⟨a, ha⟩ : ∃ a : Nat, Int.tmod k (n : Int) = (a : Int) := ⟨(Int.tmod k (n : Int)).toNat, by rw [Int.toNat_of_nonneg (Int.tmod_nonneg _ hk0)]⟩
  have han : a < n := by have := Int.tmod_lt_of_pos k (show (0 : Int) < (n : Int) by omega); omega
  have HAN := Aside0.mk (show a < (sitesD d).length by rw [hn]; exact han)
  clear hn
  have HAT := Aside0.mk (fun W (hW : RD W d A1 c1 A2 c2 A3 c3 A4 c4 K4 k4 K5 k5 K6 k6) => at_l d HO.out.1 HO.out.2.1 a HAN.out hW)
  go_wp2_with (first
    | (refine wpList_load_row rfl 33 (.tmp 3) rfl (w.heap.size) rfl _ _ (0, 0) _ kD Try.underlying33 rfl (by kernel_rfl) ?_)
    | fail)
  refine (HAT.out _ HD3.out.1).mono ?_
  rintro e_ w4 ⟨O3, o3, O4, o4, rfl, hro, hb4⟩
  obtain ⟨old, hold⟩ : ∃ x, ((sitesD d)[a]'HAN.out).1 = x := ⟨_, rfl⟩
  obtain ⟨nd, hnd⟩ : ∃ x, ((sitesD d)[a]'HAN.out).2 = x := ⟨_, rfl⟩
  have hnd0 : 0 ≤ nd := by rw [← hnd]; exact sitesD_rng d HO.out.2.1.2 _ (List.getElem_mem HAN.out)
  have HOLD := Aside0.mk hold
  rw [hold] at hro ⊢
  rw [hnd]
  replace kD := blk_below kD hb4
  replace kT := blk_below kT hb4
  have kO := blk_new w4 (.cells (tarr old O3 o3 O4 o4) 26)
  have bO := below_alloc1 w4 (.cells (tarr old O3 o3 O4 o4) 26)
  have zO := World.size_alloc w4 (.cells (tarr old O3 o3 O4 o4) 26)
  have hz4 : w.heap.size + 1 < w4.heap.size := blk_lt kT
  replace kD := blk_below kD bO
  replace kT := blk_below kT bO
  have HD4 := Aside0.mk (And.intro ((HD3.out.1.below hb4).below bO) (And.intro ((HD3.out.2.below hb4).below bO) (hro.below bO)))
  have B4 := Aside0.mk (B3.out.trans ((hb4.trans (bO.mono hb4.size)).mono B3.out.size))
  have HP := Aside0.mk (put_l d HO.out.1 HO.out.2.1 a HAN.out t HD4.out.1 HD4.out.2.1)
  clear HAT HD3 B3 hb4 hro hold hnd bO ha e0 hn0 hk0 hk1
  go_wp2_with (first
    | (refine wpList_load_row rfl 33 (.tmp 3) rfl (w.heap.size) rfl _ _ (0, 0) _ kD Try.underlying33 rfl (by kernel_rfl) ?_)
    | (refine wpList_load_row rfl 26 (.tmp 5) rfl (w.heap.size + 1) rfl _ _ (0, 0) _ kT Try.underlying26 rfl (by kernel_rfl) ?_)
    | fail)
  refine HP.out.mono ?_
  rintro e_ w5 ⟨X1, y1, X2, y2, X3, y3, X4, y4, Z4, m4, Z5, m5, Z6, m6, rfl, hrx, hb5⟩
  obtain ⟨x, hx⟩ : ∃ x, turnD (putF (a : Int) t) d = x := ⟨_, rfl⟩
  have hxl : (sitesD x).length = n := by rw [← hx, turnD_len]; exact HN.out
  have hxs : Small x := by rw [← hx]; exact HO.out.2.1.turn _
  have hxo : OkD x := by rw [← hx]; exact HO.out.1.turn _ (fun j s hs => putF_okt HO.out.2.2 j s hs)
  have hxg : ∀ i (hi : i < (sitesD d).length) (hi2 : i < (sitesD x).length), (sitesD x)[i] = (if i = a then t else (sitesD d)[i].1, (sitesD d)[i].2) := by subst hx; exact fun i hi hi2 => put_at d HO.out.2.1 t a i hi hi2
  have hxb : turnD (putF (a : Int) old) x = d := by rw [← hx, ← HOLD.out]; exact put_back d HO.out.2.1 t a HAN.out
  have hxn : nodesE x.f1 = nodesE d.f1 := by rw [← hx]; exact nodesE_turn _ _ _
  rw [hx] at hrx ⊢
  have HXX := Aside0.mk (And.intro hxs (And.intro hxo (And.intro hxg (And.intro hxb (And.intro hxn hxl)))))
  have hz5 : w4.heap.size < w5.heap.size := by have := hb5.size; rw [zO] at this; omega
  have kN := blk_new w5 (.cells zdcells 33)
  have bN := below_alloc1 w5 (.cells zdcells 33)
  have hqR : Kq (fun b => b = w5.heap.size) _ _ := Kq.setRow (w5.alloc (.cells zdcells 33)) (g := w5.heap.size) (dcells x X1 y1 X2 y2 X3 y3 X4 y4 Z4 m4 Z5 m5 Z6 m6)
  have kX := setRow_heap (w5.alloc (.cells zdcells 33)) w5.heap.size _ (dcells x X1 y1 X2 y2 X3 y3 X4 y4 Z4 m4 Z5 m5 Z6 m6) _ _ kN
  have hb6 : Below w5.heap.size w5 _ := (bN.trans ((hqR.below (B := w5.heap.size) (by have := bN.size; omega) (fun k hk h => by omega))))
  have hb7 := hb5.trans (hb6.mono hb5.size)
  replace kD := blk_below kD hb7
  replace kT := blk_below kT hb7
  replace kO := blk_below kO hb7
  have HD5 := Aside0.mk (And.intro (HD4.out.1.below hb7) (And.intro (HD4.out.2.1.below hb7) (And.intro (HD4.out.2.2.below hb7) (hrx.below hb6))))
  have B5 := Aside0.mk (B4.out.trans (hb7.mono B4.out.size))
  have HKN := Aside0.mk kN
  clear hx hxl hxs hxo hxg hxb hxn hrx kN bN hqR hb5 hb6 hb7 HD4 B4 HP zO
  generalize hW7 : World.setRow _ _ _ = W7 at kX kD kT kO HD5 B5
  obtain ⟨⟨q0, q1, q2, q3, q4, q5, q6, q7, q8, q9, q10, q11, q12, q13, q14⟩, -, lq⟩ := fifteen kX
  go_wp2_with (first
    | (refine wpList_store_row rfl 33 (.tmp 12) (.tmp 52) rfl w5.heap.size (dcells x X1 y1 X2 y2 X3 y3 X4 y4 Z4 m4 Z5 m5 Z6 m6) rfl rfl _ _ HKN.out (by kernel_rfl) rfl (by simp [Value.oneCell']) ?_; rw [hW7])
    | fail)
  refine (count_l x HXX.out.2.1 HXX.out.1 HD5.out.2.2.2).mono ?_
  rintro e_ w8 ⟨rfl, hb8⟩
  rw [HXX.out.2.2.2.2.2]
  clear q0 q1 q2 q3 q4 q5 q6 q7 q8 q9 q10 q11 q12 q13 q14 lq HKN hW7
  replace kD := blk_below kD hb8
  replace kT := blk_below kT hb8
  replace kO := blk_below kO hb8
  replace kX := blk_below kX hb8
  have HD8 := Aside0.mk (And.intro (HD5.out.1.below hb8) (And.intro (HD5.out.2.1.below hb8) (And.intro (HD5.out.2.2.1.below hb8) (HD5.out.2.2.2.below hb8))))
  have B8 := Aside0.mk (B5.out.trans (hb8.mono B5.out.size))
  have HKK := Aside0.mk (And.intro kD (And.intro kT (And.intro kO kX)))
  clear HD5 B5 hb8 kD kT kO kX
  go_wp2_with fail
  go_loopg [14] n (fun kq v14 w' => ∃ (i : Nat), v14 = .int .i64 i ∧ kq + i = n ∧ Below w8.heap.size w8 w')
  case atStart => exact ⟨0, rfl, rfl, Below.refl _ _⟩
  case round =>
    obtain ⟨i, rfl, hk, br⟩ := hrel
    obtain ⟨kD, kT, kO, kX⟩ := HKK.out
    replace kD := blk_below kD br
    replace kT := blk_below kT br
    replace kX := blk_below kX br
    replace kO := blk_below kO br
    have HDr := Aside0.mk (And.intro (HD8.out.1.below br) (And.intro (HD8.out.2.1.below br) (HD8.out.2.2.2.below br)))
    by_cases hi : i < n
    · obtain ⟨k1, rfl⟩ : ∃ k1, gk = k1 + 1 := ⟨gk - 1, by omega⟩
      have ci : decide ((i : Int) < (n : Int)) = true := decide_eq_true (by omega)
      have ci2 : decide (i < n) = true := decide_eq_true hi
      have hid : i < (sitesD d).length := by rw [HN.out]; exact hi
      have hix : i < (sitesD x).length := by rw [HXX.out.2.2.2.2.2]; exact hi
      obtain ⟨tA, htA⟩ : ∃ z, ((sitesD d)[i]'hid).1 = z := ⟨_, rfl⟩
      obtain ⟨p, hp⟩ : ∃ z, ((sitesD d)[i]'hid).2 = z := ⟨_, rfl⟩
      have hoA : Okt tA := by rw [← htA]; exact okt_site HO.out.1 i hid
      have HA1 := Aside0.mk (at_l d HO.out.1 HO.out.2.1 i hid HDr.out.1)
      have hxi := HXX.out.2.2.1 i hid hix
      obtain ⟨tB, htB⟩ : ∃ z, (if i = a then t else tA) = z := ⟨_, rfl⟩
      have HA2 := Aside0.mk (fun W (hW : RD W x X1 y1 X2 y2 X3 y3 X4 y4 Z4 m4 Z5 m5 Z6 m6) => at_l x HXX.out.2.1 HXX.out.1 i hix hW)
      rw [hxi, htA, hp, htB] at HA2
      rw [htA, hp] at HA1
      have HTB := Aside0.mk htB
      have HK := Aside0.mk hk
      have HOA := Aside0.mk hoA
      have BR := Aside0.mk br
      have hi9 : i < 9223372036854775807 := by omega
      clear hk htA hp hxi htB hoA hid hix br
      go_wp2_with (first
        | (refine wpList_load_row rfl 33 (.tmp 3) rfl (w.heap.size) rfl _ _ (0, 0) _ kD Try.underlying33 rfl (by kernel_rfl) ?_)
        | fail)
      refine HA1.out.mono ?_
      rintro e_ wa ⟨P3, p3, P4, p4, rfl, hra, hba⟩
      dsimp only at hra ⊢
      have kA := blk_new wa (.cells (tarr tA P3 p3 P4 p4) 26)
      have bA := below_alloc1 wa (.cells (tarr tA P3 p3 P4 p4) 26)
      have zA := World.size_alloc wa (.cells (tarr tA P3 p3 P4 p4) 26)
      have hab := hba.trans (bA.mono hba.size)
      have sA := blk_lt (blk_below kX hba)
      replace kD := blk_below kD hab
      replace kT := blk_below kT hab
      replace kX := blk_below kX hab
      have HR2 := Aside0.mk (And.intro (HDr.out.2.1.below hab) (And.intro (HDr.out.2.2.below hab) (hra.below bA)))
      have B2r := Aside0.mk (BR.out.trans (hab.mono BR.out.size))
      clear hra hba bA hab HA1 HDr BR
      go_wp2_with (first
        | (refine wpList_load_row rfl 33 (.tmp 12) rfl (w5.heap.size) rfl _ _ (0, 0) _ kX Try.underlying33 rfl (by kernel_rfl) ?_)
        | fail)
      refine (HA2.out _ HR2.out.2.1).mono ?_
      rintro e_ wb ⟨Q3, q3, Q4, q4, rfl, hrb, hbb⟩
      dsimp only at hrb ⊢
      have kB := blk_new wb (.cells (tarr tB Q3 q3 Q4 q4) 26)
      have bB := below_alloc1 wb (.cells (tarr tB Q3 q3 Q4 q4) 26)
      have zB := World.size_alloc wb (.cells (tarr tB Q3 q3 Q4 q4) 26)
      have hbb2 := hbb.trans (bB.mono hbb.size)
      have sB := blk_lt (blk_below kA hbb)
      replace kT := blk_below kT hbb2
      replace kA := blk_below kA hbb2
      have HR3 := Aside0.mk (And.intro (HR2.out.1.below hbb2) (And.intro (HR2.out.2.2.below hbb2) (hrb.below bB)))
      have B3r := Aside0.mk (B2r.out.trans (hbb2.mono B2r.out.size))
      clear hrb hbb bB hbb2 HA2 HR2 B2r kD kX kO zA
      obtain ⟨⟨t0, t1, t2, t3, t4⟩, -, lt⟩ := five kT
      obtain ⟨⟨a0, a1, a2, a3, a4⟩, -, la⟩ := five kA
      obtain ⟨⟨b0, b1, b2, b3, b4⟩, -, lb⟩ := five kB
      by_cases hia : i = a
      · have hB : tB = t := by rw [← HTB.out, if_pos hia]
        subst hB
        subst hia
        clear kA kB kT a0 a1 a2 a3 a4 la HTB
        go_wp2_with fail
        refine (saysT tB HO.out.2.2 tB _ _ _ _ _ _ _ _ _ HR3.out.2.2 HR3.out.1).mono ?_
        rintro e_ wc ⟨b, rfl, hbi, hbc⟩
        obtain rfl := hbi.2 rfl
        have br4 := B3r.out.trans (hbc.mono B3r.out.size)
        clear hbi hbc t0 t1 t2 t3 t4 lt b0 b1 b2 b3 b4 lb
        go_wp2
        go_roundg k1
        case measure => omega
        case rel => exact ⟨i + 1, (by first | rfl | (rw [wrap_up hi9])), by have := HK.out; omega, br4⟩
      · have hB : tB = tA := by rw [← HTB.out, if_neg hia]
        subst hB
        have e1 : ((i : Int) == (a : Int)) = false := beq_eq_false_iff_ne.2 (by omega)
        have e2 : ((i : Int) != (a : Int)) = true := ne_yes (by omega)
        clear hia kA kB kT t0 t1 t2 t3 t4 lt HTB
        go_wp2_with fail
        refine (saysT tB HOA.out tB _ _ _ _ _ _ _ _ _ HR3.out.2.1 HR3.out.2.2).mono ?_
        rintro e_ wc ⟨b, rfl, hbi, hbc⟩
        obtain rfl := hbi.2 rfl
        have br4 := B3r.out.trans (hbc.mono B3r.out.size)
        clear hbi hbc a0 a1 a2 a3 a4 la b0 b1 b2 b3 b4 lb
        go_wp2
        go_roundg k1
        case measure => omega
        case rel => exact ⟨i + 1, (by first | rfl | (rw [wrap_up hi9])), by have := HK.out; omega, br4⟩
    · have cn : decide ((i : Int) < (n : Int)) = false := decide_eq_false (by omega)
      have cn2 : decide (i < n) = false := decide_eq_false hi
      have HX9 := Aside0.mk (And.intro (HD8.out.1.below br) (And.intro (HD8.out.2.2.1.below br) (HD8.out.2.2.2.below br)))
      have B9 := Aside0.mk (B8.out.trans (br.mono B8.out.size))
      have han2 : a < (sitesD x).length := by rw [HXX.out.2.2.2.2.2]; exact han
      have HPY := Aside0.mk (put_l x HXX.out.2.1 HXX.out.1 a han2 old HX9.out.2.2 HX9.out.2.1)
      rw [HXX.out.2.2.2.1] at HPY
      clear han2 hk hi br HDr kT
      go_wp2_with (first
        | (refine wpList_load_row rfl 33 (.tmp 12) rfl (w5.heap.size) rfl _ _ (0, 0) _ kX Try.underlying33 rfl (by kernel_rfl) ?_)
        | (refine wpList_load_row rfl 26 (.tmp 9) rfl (w4.heap.size) rfl _ _ (0, 0) _ kO Try.underlying26 rfl (by kernel_rfl) ?_)
        | fail)
      refine HPY.out.mono ?_
      rintro e_ wy ⟨G1, g1, G2, g2, G3, g3, G4, g4, H4, h4, H5, h5, H6, h6, rfl, hry, hby⟩
      dsimp only at hry ⊢
      have kN := blk_new wy (.cells zdcells 33)
      have bN := below_alloc1 wy (.cells zdcells 33)
      have hqR : Kq (fun b => b = wy.heap.size) _ _ := Kq.setRow (wy.alloc (.cells zdcells 33)) (g := wy.heap.size) (dcells d G1 g1 G2 g2 G3 g3 G4 g4 H4 h4 H5 h5 H6 h6)
      have kY := setRow_heap (wy.alloc (.cells zdcells 33)) wy.heap.size _ (dcells d G1 g1 G2 g2 G3 g3 G4 g4 H4 h4 H5 h5 H6 h6) _ _ kN
      have hb6 : Below wy.heap.size wy _ := (bN.trans ((hqR.below (B := wy.heap.size) (by have := bN.size; omega) (fun k hk h => by omega))))
      have hb7 := hby.trans (hb6.mono hby.size)
      replace kD := blk_below kD hb7
      replace kX := blk_below kX hb7
      have HRY := Aside0.mk (And.intro (HX9.out.1.below hb7) (And.intro (HX9.out.2.2.below hb7) (hry.below hb6)))
      have B10 := Aside0.mk (B9.out.trans (hb7.mono B9.out.size))
      have HKN := Aside0.mk kN
      clear hry kN bN hqR hby hb6 hb7 HX9 B9 HPY kO
      generalize hW10 : World.setRow _ _ _ = W10 at kY kD kX HRY B10
      obtain ⟨⟨q0, q1, q2, q3, q4, q5, q6, q7, q8, q9, q10, q11, q12, q13, q14⟩, -, lq⟩ := fifteen kY
      obtain ⟨⟨p0, p1, p2, p3, p4, p5, p6, p7, p8, p9, p10, p11, p12, p13, p14⟩, -, lp⟩ := fifteen kD
      obtain ⟨⟨x0, x1, x2, x3, x4, x5, x6, x7, x8, x9, x10, x11, x12, x13, x14⟩, -, lx⟩ := fifteen kX
      have eg : decide ((0 : Int) ≤ nd) = true := decide_eq_true hnd0
      have HNX := Aside0.mk (And.intro HXX.out.2.2.2.2.1 HXX.out.1.2)
      clear kY kD kX cn cn2
      go_wp2_with (first
        | (refine wpList_store_row rfl 33 (.tmp 21) (.tmp 115) rfl wy.heap.size (dcells d G1 g1 G2 g2 G3 g3 G4 g4 H4 h4 H5 h5 H6 h6) rfl rfl _ _ HKN.out (by kernel_rfl) rfl (by simp [Value.oneCell']) ?_; rw [hW10])
        | fail)
      refine wp_region_held_drew (S := (fun w' => Below W10.heap.size W10 w' ∧ w'.cell? ⟨wy.heap.size, 0, none⟩ = some (.string d.f0.f0) ∧ w'.cell? ⟨wy.heap.size, 1, none⟩ = some (.slice G1 d.f0.f1.length g1) ∧ w'.cell? ⟨wy.heap.size, 2, none⟩ = some (.slice G2 d.f0.f2.length g2) ∧ w'.cell? ⟨wy.heap.size, 3, none⟩ = some (.int .i64 d.f0.f3.f0) ∧ w'.cell? ⟨wy.heap.size, 4, none⟩ = some (.int .i64 d.f0.f3.f1) ∧ w'.cell? ⟨wy.heap.size, 5, none⟩ = some (.string d.f0.f3.f2) ∧ w'.cell? ⟨wy.heap.size, 6, none⟩ = some (.slice G3 d.f0.f3.f3.length g3) ∧ w'.cell? ⟨wy.heap.size, 7, none⟩ = some (.slice G4 d.f0.f3.f4.length g4) ∧ w'.cell? ⟨wy.heap.size, 8, none⟩ = some (.int .i64 d.f1.f0) ∧ w'.cell? ⟨wy.heap.size, 9, none⟩ = some (.int .i64 d.f1.f1) ∧ w'.cell? ⟨wy.heap.size, 10, none⟩ = some (.string d.f1.f2) ∧ w'.cell? ⟨wy.heap.size, 11, none⟩ = some (.bool d.f1.f3) ∧ w'.cell? ⟨wy.heap.size, 12, none⟩ = some (.slice H4 d.f1.f4.length h4) ∧ w'.cell? ⟨wy.heap.size, 13, none⟩ = some (.slice H5 d.f1.f5.length h5) ∧ w'.cell? ⟨wy.heap.size, 14, none⟩ = some (.slice H6 d.f1.f6.length h6) ∧ w'.cell? ⟨w.heap.size, 0, none⟩ = some (.string d.f0.f0) ∧ w'.cell? ⟨w.heap.size, 1, none⟩ = some (.slice A1 d.f0.f1.length c1) ∧ w'.cell? ⟨w.heap.size, 2, none⟩ = some (.slice A2 d.f0.f2.length c2) ∧ w'.cell? ⟨w.heap.size, 3, none⟩ = some (.int .i64 d.f0.f3.f0) ∧ w'.cell? ⟨w.heap.size, 4, none⟩ = some (.int .i64 d.f0.f3.f1) ∧ w'.cell? ⟨w.heap.size, 5, none⟩ = some (.string d.f0.f3.f2) ∧ w'.cell? ⟨w.heap.size, 6, none⟩ = some (.slice A3 d.f0.f3.f3.length c3) ∧ w'.cell? ⟨w.heap.size, 7, none⟩ = some (.slice A4 d.f0.f3.f4.length c4) ∧ w'.cell? ⟨w.heap.size, 8, none⟩ = some (.int .i64 d.f1.f0) ∧ w'.cell? ⟨w.heap.size, 9, none⟩ = some (.int .i64 d.f1.f1) ∧ w'.cell? ⟨w.heap.size, 10, none⟩ = some (.string d.f1.f2) ∧ w'.cell? ⟨w.heap.size, 11, none⟩ = some (.bool d.f1.f3) ∧ w'.cell? ⟨w.heap.size, 12, none⟩ = some (.slice K4 d.f1.f4.length k4) ∧ w'.cell? ⟨w.heap.size, 13, none⟩ = some (.slice K5 d.f1.f5.length k5) ∧ w'.cell? ⟨w.heap.size, 14, none⟩ = some (.slice K6 d.f1.f6.length k6) ∧ w'.cell? ⟨w5.heap.size, 8, none⟩ = some (.int .i64 x.f1.f0) ∧ w'.cell? ⟨w5.heap.size, 9, none⟩ = some (.int .i64 x.f1.f1) ∧ w'.cell? ⟨w5.heap.size, 10, none⟩ = some (.string x.f1.f2) ∧ w'.cell? ⟨w5.heap.size, 11, none⟩ = some (.bool x.f1.f3) ∧ w'.cell? ⟨w5.heap.size, 12, none⟩ = some (.slice Z4 x.f1.f4.length m4) ∧ w'.cell? ⟨w5.heap.size, 13, none⟩ = some (.slice Z5 x.f1.f5.length m5) ∧ w'.cell? ⟨w5.heap.size, 14, none⟩ = some (.slice Z6 x.f1.f6.length m6))) (by kernel_rfl) ?_ (fun hHeld => ?_)
      · (try dsimp only)
        (refine and_of (fun hB_ => ⟨cell_up hB_ q0, cell_up hB_ q1, cell_up hB_ q2, cell_up hB_ q3, cell_up hB_ q4, cell_up hB_ q5, cell_up hB_ q6, cell_up hB_ q7, cell_up hB_ q8, cell_up hB_ q9, cell_up hB_ q10, cell_up hB_ q11, cell_up hB_ q12, cell_up hB_ q13, cell_up hB_ q14, cell_up hB_ p0, cell_up hB_ p1, cell_up hB_ p2, cell_up hB_ p3, cell_up hB_ p4, cell_up hB_ p5, cell_up hB_ p6, cell_up hB_ p7, cell_up hB_ p8, cell_up hB_ p9, cell_up hB_ p10, cell_up hB_ p11, cell_up hB_ p12, cell_up hB_ p13, cell_up hB_ p14, cell_up hB_ x8, cell_up hB_ x9, cell_up hB_ x10, cell_up hB_ x11, cell_up hB_ x12, cell_up hB_ x13, cell_up hB_ x14⟩) ?_; first | (with_reducible exact (Below.refl _ _).drew) | (with_reducible exact below_call' (And.left (by assumption)) (by assumption)) | (with_reducible exact And.left (by assumption)))
      (first | (refine take_held (i := 0) (d := (some 117)) (v := ?_) rfl rfl (by kernel_rfl) (by kernel_rfl) (by kernel_rfl) (fun _ _ _ h => h) (Or.inl ⟨by rfl, ?_⟩) (by assumption) ?_; rotate_left 1; focus ((intro w hSw; (try dsimp only at hSw); first | (go_simp; done) | (go_simp; with_reducible rfl)); done); (try simp only [Act.put, List.setIfInBounds_toArray, List.set_cons_zero, List.set_cons_succ])))
      (try simp only [Act.put, List.setIfInBounds_toArray, List.set_cons_zero, List.set_cons_succ])
      (first | (refine take_held (i := 1) (d := (some 118)) (v := ?_) rfl rfl (by kernel_rfl) (by kernel_rfl) (by kernel_rfl) (fun _ _ _ h => h) (Or.inl ⟨by rfl, ?_⟩) (by assumption) ?_; rotate_left 1; focus ((intro w hSw; (try dsimp only at hSw); first | (go_simp; done) | (go_simp; with_reducible rfl)); done); (try simp only [Act.put, List.setIfInBounds_toArray, List.set_cons_zero, List.set_cons_succ])))
      (try simp only [Act.put, List.setIfInBounds_toArray, List.set_cons_zero, List.set_cons_succ])
      (first | (refine take_held (i := 2) (d := (some 119)) (v := ?_) rfl rfl (by kernel_rfl) (by kernel_rfl) (by kernel_rfl) (fun _ _ _ h => h) (Or.inl ⟨by rfl, ?_⟩) (by assumption) ?_; rotate_left 1; focus ((intro w hSw; (try dsimp only at hSw); first | (go_simp; done) | (go_simp; with_reducible rfl)); done); (try simp only [Act.put, List.setIfInBounds_toArray, List.set_cons_zero, List.set_cons_succ])) | (refine take_held (i := 2) (d := (some 119)) (v := undef) rfl rfl (by kernel_rfl) (by kernel_rfl) (by kernel_rfl) (fun _ _ _ h => h) (Or.inr ⟨by rfl, rfl⟩) (by assumption) ?_; (try simp only [Act.put, List.setIfInBounds_toArray, List.set_cons_zero, List.set_cons_succ])))
      (try simp only [Act.put, List.setIfInBounds_toArray, List.set_cons_zero, List.set_cons_succ])
      (first | (refine take_held (i := 3) (d := (some 120)) (v := ?_) rfl rfl (by kernel_rfl) (by kernel_rfl) (by kernel_rfl) (fun _ _ _ h => h) (Or.inl ⟨by rfl, ?_⟩) (by assumption) ?_; rotate_left 1; focus ((intro w hSw; (try dsimp only at hSw); first | (go_simp; done) | (go_simp; with_reducible rfl)); done); (try simp only [Act.put, List.setIfInBounds_toArray, List.set_cons_zero, List.set_cons_succ])) | (refine take_held (i := 3) (d := (some 120)) (v := undef) rfl rfl (by kernel_rfl) (by kernel_rfl) (by kernel_rfl) (fun _ _ _ h => h) (Or.inr ⟨by rfl, rfl⟩) (by assumption) ?_; (try simp only [Act.put, List.setIfInBounds_toArray, List.set_cons_zero, List.set_cons_succ])))
      (try simp only [Act.put, List.setIfInBounds_toArray, List.set_cons_zero, List.set_cons_succ])
      (first
        | (refine take_held (i := 4) (d := (some 121)) (v := undef) rfl rfl (by kernel_rfl) (by kernel_rfl) (by kernel_rfl) (fun _ _ _ h => h) (Or.inr ⟨by rfl, rfl⟩) (by assumption) ?_; (try simp only [Act.put, List.setIfInBounds_toArray, List.set_cons_zero, List.set_cons_succ]))
        | (refine wpAnyH_ready (rs := [4]) (by kernel_rfl) (by simp) ?_; refine AllReadyH.cons (o := _) rfl (fun K hK => ?_) AllReadyH.nil; go_simp; (refine (def_s d d HO.out.1 (HRY.out.2.2.below (And.left hHeld)) (HRY.out.1.below (And.left hHeld))).mono ?_; rintro e_ wA ⟨b, rfl, hbi, hbA⟩; obtain rfl := hbi.2 rfl); (try go_wp2_with fail); refine hK.out _ _ (by (try dsimp only); (refine and_of (fun hB_ => ⟨cell_up hB_ q0, cell_up hB_ q1, cell_up hB_ q2, cell_up hB_ q3, cell_up hB_ q4, cell_up hB_ q5, cell_up hB_ q6, cell_up hB_ q7, cell_up hB_ q8, cell_up hB_ q9, cell_up hB_ q10, cell_up hB_ q11, cell_up hB_ q12, cell_up hB_ q13, cell_up hB_ q14, cell_up hB_ p0, cell_up hB_ p1, cell_up hB_ p2, cell_up hB_ p3, cell_up hB_ p4, cell_up hB_ p5, cell_up hB_ p6, cell_up hB_ p7, cell_up hB_ p8, cell_up hB_ p9, cell_up hB_ p10, cell_up hB_ p11, cell_up hB_ p12, cell_up hB_ p13, cell_up hB_ p14, cell_up hB_ x8, cell_up hB_ x9, cell_up hB_ x10, cell_up hB_ x11, cell_up hB_ x12, cell_up hB_ x13, cell_up hB_ x14⟩) ?_; first | (with_reducible exact (Below.refl _ _).drew) | (with_reducible exact below_call' (And.left (by assumption)) (by assumption)) | (with_reducible exact And.left (by assumption)))) ?_; clear hHeld hK K; intro hHeld; (try simp only [Act.put, List.setIfInBounds_toArray, List.set_cons_zero, List.set_cons_succ])))
      (first | (refine take_held (i := 5) (d := (some 122)) (v := ?_) rfl rfl (by kernel_rfl) (by kernel_rfl) (by kernel_rfl) (fun _ _ _ h => h) (Or.inl ⟨by rfl, ?_⟩) (by assumption) ?_; rotate_left 1; focus ((intro w hSw; (try dsimp only at hSw); first | (go_simp; done) | (go_simp; with_reducible rfl)); done); (try simp only [Act.put, List.setIfInBounds_toArray, List.set_cons_zero, List.set_cons_succ])))
      (try simp only [Act.put, List.setIfInBounds_toArray, List.set_cons_zero, List.set_cons_succ])
      (first | (refine take_held (i := 6) (d := (some 123)) (v := ?_) rfl rfl (by kernel_rfl) (by kernel_rfl) (by kernel_rfl) (fun _ _ _ h => h) (Or.inl ⟨by rfl, ?_⟩) (by assumption) ?_; rotate_left 1; focus ((intro w hSw; (try dsimp only at hSw); first | (go_simp; done) | (go_simp; with_reducible rfl)); done); (try simp only [Act.put, List.setIfInBounds_toArray, List.set_cons_zero, List.set_cons_succ])))
      (try simp only [Act.put, List.setIfInBounds_toArray, List.set_cons_zero, List.set_cons_succ])
      (first | (refine take_held (i := 7) (d := (some 124)) (v := ?_) rfl rfl (by kernel_rfl) (by kernel_rfl) (by kernel_rfl) (fun _ _ _ h => h) (Or.inl ⟨by rfl, ?_⟩) (by assumption) ?_; rotate_left 1; focus ((intro w hSw; (try dsimp only at hSw); first | (go_simp; done) | (go_simp; with_reducible rfl)); done); (try simp only [Act.put, List.setIfInBounds_toArray, List.set_cons_zero, List.set_cons_succ])) | (refine take_held (i := 7) (d := (some 124)) (v := undef) rfl rfl (by kernel_rfl) (by kernel_rfl) (by kernel_rfl) (fun _ _ _ h => h) (Or.inr ⟨by rfl, rfl⟩) (by assumption) ?_; (try simp only [Act.put, List.setIfInBounds_toArray, List.set_cons_zero, List.set_cons_succ])))
      (try simp only [Act.put, List.setIfInBounds_toArray, List.set_cons_zero, List.set_cons_succ])
      (first | (refine take_held (i := 8) (d := (some 125)) (v := ?_) rfl rfl (by kernel_rfl) (by kernel_rfl) (by kernel_rfl) (fun _ _ _ h => h) (Or.inl ⟨by rfl, ?_⟩) (by assumption) ?_; rotate_left 1; focus ((intro w hSw; (try dsimp only at hSw); first | (go_simp; done) | (go_simp; with_reducible rfl)); done); (try simp only [Act.put, List.setIfInBounds_toArray, List.set_cons_zero, List.set_cons_succ])) | (refine take_held (i := 8) (d := (some 125)) (v := undef) rfl rfl (by kernel_rfl) (by kernel_rfl) (by kernel_rfl) (fun _ _ _ h => h) (Or.inr ⟨by rfl, rfl⟩) (by assumption) ?_; (try simp only [Act.put, List.setIfInBounds_toArray, List.set_cons_zero, List.set_cons_succ])))
      (try simp only [Act.put, List.setIfInBounds_toArray, List.set_cons_zero, List.set_cons_succ])
      (first | (refine take_held (i := 9) (d := (some 126)) (v := ?_) rfl rfl (by kernel_rfl) (by kernel_rfl) (by kernel_rfl) (fun _ _ _ h => h) (Or.inl ⟨by rfl, ?_⟩) (by assumption) ?_; rotate_left 1; focus ((intro w hSw; (try dsimp only at hSw); first | (go_simp; done) | (go_simp; with_reducible rfl)); done); (try simp only [Act.put, List.setIfInBounds_toArray, List.set_cons_zero, List.set_cons_succ])))
      (try simp only [Act.put, List.setIfInBounds_toArray, List.set_cons_zero, List.set_cons_succ])
      (first | (refine take_held (i := 10) (d := (some 127)) (v := ?_) rfl rfl (by kernel_rfl) (by kernel_rfl) (by kernel_rfl) (fun _ _ _ h => h) (Or.inl ⟨by rfl, ?_⟩) (by assumption) ?_; rotate_left 1; focus ((intro w hSw; (try dsimp only at hSw); first | (go_simp; done) | (go_simp; with_reducible rfl)); done); (try simp only [Act.put, List.setIfInBounds_toArray, List.set_cons_zero, List.set_cons_succ])))
      (try simp only [Act.put, List.setIfInBounds_toArray, List.set_cons_zero, List.set_cons_succ])
      (first | (refine take_held (i := 11) (d := (some 128)) (v := ?_) rfl rfl (by kernel_rfl) (by kernel_rfl) (by kernel_rfl) (fun _ _ _ h => h) (Or.inl ⟨by rfl, ?_⟩) (by assumption) ?_; rotate_left 1; focus ((intro w hSw; (try dsimp only at hSw); first | (go_simp; done) | (go_simp; with_reducible rfl)); done); (try simp only [Act.put, List.setIfInBounds_toArray, List.set_cons_zero, List.set_cons_succ])) | (refine take_held (i := 11) (d := (some 128)) (v := undef) rfl rfl (by kernel_rfl) (by kernel_rfl) (by kernel_rfl) (fun _ _ _ h => h) (Or.inr ⟨by rfl, rfl⟩) (by assumption) ?_; (try simp only [Act.put, List.setIfInBounds_toArray, List.set_cons_zero, List.set_cons_succ])))
      (try simp only [Act.put, List.setIfInBounds_toArray, List.set_cons_zero, List.set_cons_succ])
      (first | (refine take_held (i := 12) (d := (some 129)) (v := ?_) rfl rfl (by kernel_rfl) (by kernel_rfl) (by kernel_rfl) (fun _ _ _ h => h) (Or.inl ⟨by rfl, ?_⟩) (by assumption) ?_; rotate_left 1; focus ((intro w hSw; (try dsimp only at hSw); first | (go_simp; done) | (go_simp; with_reducible rfl)); done); (try simp only [Act.put, List.setIfInBounds_toArray, List.set_cons_zero, List.set_cons_succ])) | (refine take_held (i := 12) (d := (some 129)) (v := undef) rfl rfl (by kernel_rfl) (by kernel_rfl) (by kernel_rfl) (fun _ _ _ h => h) (Or.inr ⟨by rfl, rfl⟩) (by assumption) ?_; (try simp only [Act.put, List.setIfInBounds_toArray, List.set_cons_zero, List.set_cons_succ])))
      (try simp only [Act.put, List.setIfInBounds_toArray, List.set_cons_zero, List.set_cons_succ])
      (first | (refine take_held (i := 14) (d := (some 131)) (v := ?_) rfl rfl (by kernel_rfl) (by kernel_rfl) (by kernel_rfl) (fun _ _ _ h => h) (Or.inl ⟨by rfl, ?_⟩) (by assumption) ?_; rotate_left 1; focus ((intro w hSw; (try dsimp only at hSw); first | (go_simp; done) | (go_simp; with_reducible rfl)); done); (try simp only [Act.put, List.setIfInBounds_toArray, List.set_cons_zero, List.set_cons_succ])) | (refine take_held (i := 14) (d := (some 131)) (v := undef) rfl rfl (by kernel_rfl) (by kernel_rfl) (by kernel_rfl) (fun _ _ _ h => h) (Or.inr ⟨by rfl, rfl⟩) (by assumption) ?_; (try simp only [Act.put, List.setIfInBounds_toArray, List.set_cons_zero, List.set_cons_succ])))
      (try simp only [Act.put, List.setIfInBounds_toArray, List.set_cons_zero, List.set_cons_succ])
      (first | (refine take_held (i := 15) (d := (some 132)) (v := ?_) rfl rfl (by kernel_rfl) (by kernel_rfl) (by kernel_rfl) (fun _ _ _ h => h) (Or.inl ⟨by rfl, ?_⟩) (by assumption) ?_; rotate_left 1; focus ((intro w hSw; (try dsimp only at hSw); first | (go_simp; done) | (go_simp; with_reducible rfl)); done); (try simp only [Act.put, List.setIfInBounds_toArray, List.set_cons_zero, List.set_cons_succ])) | (refine take_held (i := 15) (d := (some 132)) (v := undef) rfl rfl (by kernel_rfl) (by kernel_rfl) (by kernel_rfl) (fun _ _ _ h => h) (Or.inr ⟨by rfl, rfl⟩) (by assumption) ?_; (try simp only [Act.put, List.setIfInBounds_toArray, List.set_cons_zero, List.set_cons_succ])))
      (try simp only [Act.put, List.setIfInBounds_toArray, List.set_cons_zero, List.set_cons_succ])
      (first
        | (refine take_held (i := 13) (d := (some 130)) (v := undef) rfl rfl (by kernel_rfl) (by kernel_rfl) (by kernel_rfl) (fun _ _ _ h => h) (Or.inr ⟨by rfl, rfl⟩) (by assumption) ?_; (try simp only [Act.put, List.setIfInBounds_toArray, List.set_cons_zero, List.set_cons_succ]))
        | (refine wpAnyH_ready (rs := [13]) (by kernel_rfl) (by simp) ?_; refine AllReadyH.cons (o := _) rfl (fun K hK => ?_) AllReadyH.nil; go_simp; (refine (count14 x.f1 HXX.out.2.1.2 HNX.out.2 _ _ _ _ _ _ _ (HRY.out.2.1.2.below (And.left hHeld))).mono ?_; rintro e_ wA ⟨rfl, hbA⟩; rw [HNX.out.1]); (try go_wp2_with fail); refine hK.out _ _ (by (try dsimp only); (refine and_of (fun hB_ => ⟨cell_up hB_ q0, cell_up hB_ q1, cell_up hB_ q2, cell_up hB_ q3, cell_up hB_ q4, cell_up hB_ q5, cell_up hB_ q6, cell_up hB_ q7, cell_up hB_ q8, cell_up hB_ q9, cell_up hB_ q10, cell_up hB_ q11, cell_up hB_ q12, cell_up hB_ q13, cell_up hB_ q14, cell_up hB_ p0, cell_up hB_ p1, cell_up hB_ p2, cell_up hB_ p3, cell_up hB_ p4, cell_up hB_ p5, cell_up hB_ p6, cell_up hB_ p7, cell_up hB_ p8, cell_up hB_ p9, cell_up hB_ p10, cell_up hB_ p11, cell_up hB_ p12, cell_up hB_ p13, cell_up hB_ p14, cell_up hB_ x8, cell_up hB_ x9, cell_up hB_ x10, cell_up hB_ x11, cell_up hB_ x12, cell_up hB_ x13, cell_up hB_ x14⟩) ?_; first | (with_reducible exact (Below.refl _ _).drew) | (with_reducible exact below_call' (And.left (by assumption)) (by assumption)) | (with_reducible exact And.left (by assumption)))) ?_; clear hHeld hK K; intro hHeld; (try simp only [Act.put, List.setIfInBounds_toArray, List.set_cons_zero, List.set_cons_succ])))
      (first
        | (refine take_held (i := 16) (d := (some 133)) (v := undef) rfl rfl (by kernel_rfl) (by kernel_rfl) (by kernel_rfl) (fun _ _ _ h => h) (Or.inr ⟨by rfl, rfl⟩) (by assumption) ?_; (try simp only [Act.put, List.setIfInBounds_toArray, List.set_cons_zero, List.set_cons_succ]))
        | (refine wpAnyH_ready (rs := [16]) (by kernel_rfl) (by simp) ?_; refine AllReadyH.cons (o := _) rfl (fun K hK => ?_) AllReadyH.nil; go_simp; (refine (count14 d.f1 HO.out.1.2 HO.out.2.1.2 _ _ _ _ _ _ _ (HRY.out.1.2.below (And.left hHeld))).mono ?_; rintro e_ wA ⟨rfl, hbA⟩); (try go_wp2_with fail); refine hK.out _ _ (by (try dsimp only); (refine and_of (fun hB_ => ⟨cell_up hB_ q0, cell_up hB_ q1, cell_up hB_ q2, cell_up hB_ q3, cell_up hB_ q4, cell_up hB_ q5, cell_up hB_ q6, cell_up hB_ q7, cell_up hB_ q8, cell_up hB_ q9, cell_up hB_ q10, cell_up hB_ q11, cell_up hB_ q12, cell_up hB_ q13, cell_up hB_ q14, cell_up hB_ p0, cell_up hB_ p1, cell_up hB_ p2, cell_up hB_ p3, cell_up hB_ p4, cell_up hB_ p5, cell_up hB_ p6, cell_up hB_ p7, cell_up hB_ p8, cell_up hB_ p9, cell_up hB_ p10, cell_up hB_ p11, cell_up hB_ p12, cell_up hB_ p13, cell_up hB_ p14, cell_up hB_ x8, cell_up hB_ x9, cell_up hB_ x10, cell_up hB_ x11, cell_up hB_ x12, cell_up hB_ x13, cell_up hB_ x14⟩) ?_; first | (with_reducible exact (Below.refl _ _).drew) | (with_reducible exact below_call' (And.left (by assumption)) (by assumption)) | (with_reducible exact And.left (by assumption)))) ?_; clear hHeld hK K; intro hHeld; (try simp only [Act.put, List.setIfInBounds_toArray, List.set_cons_zero, List.set_cons_succ])))
      (first | (refine take_held (i := 17) (d := (some 134)) (v := ?_) rfl rfl (by kernel_rfl) (by kernel_rfl) (by kernel_rfl) (fun _ _ _ h => h) (Or.inl ⟨by rfl, ?_⟩) (by assumption) ?_; rotate_left 1; focus ((intro w hSw; (try dsimp only at hSw); first | (go_simp; done) | (go_simp; with_reducible rfl)); done); (try simp only [Act.put, List.setIfInBounds_toArray, List.set_cons_zero, List.set_cons_succ])) | (refine take_held (i := 17) (d := (some 134)) (v := undef) rfl rfl (by kernel_rfl) (by kernel_rfl) (by kernel_rfl) (fun _ _ _ h => h) (Or.inr ⟨by rfl, rfl⟩) (by assumption) ?_; (try simp only [Act.put, List.setIfInBounds_toArray, List.set_cons_zero, List.set_cons_succ])))
      (try simp only [Act.put, List.setIfInBounds_toArray, List.set_cons_zero, List.set_cons_succ])
      (first | (refine take_held (i := 18) (d := (some 135)) (v := ?_) rfl rfl (by kernel_rfl) (by kernel_rfl) (by kernel_rfl) (fun _ _ _ h => h) (Or.inl ⟨by rfl, ?_⟩) (by assumption) ?_; rotate_left 1; focus ((intro w hSw; (try dsimp only at hSw); first | (go_simp; done) | (go_simp; with_reducible rfl)); done); (try simp only [Act.put, List.setIfInBounds_toArray, List.set_cons_zero, List.set_cons_succ])))
      (try simp only [Act.put, List.setIfInBounds_toArray, List.set_cons_zero, List.set_cons_succ])
      (first | (refine take_held (i := 19) (d := (some 136)) (v := ?_) rfl rfl (by kernel_rfl) (by kernel_rfl) (by kernel_rfl) (fun _ _ _ h => h) (Or.inl ⟨by rfl, ?_⟩) (by assumption) ?_; rotate_left 1; focus ((intro w hSw; (try dsimp only at hSw); first | (go_simp; done) | (go_simp; with_reducible rfl)); done); (try simp only [Act.put, List.setIfInBounds_toArray, List.set_cons_zero, List.set_cons_succ])))
      (try simp only [Act.put, List.setIfInBounds_toArray, List.set_cons_zero, List.set_cons_succ])
      (first
        | (refine take_held (i := 20) (d := (some 137)) (v := undef) rfl rfl (by kernel_rfl) (by kernel_rfl) (by kernel_rfl) (fun _ _ _ h => h) (Or.inr ⟨by rfl, rfl⟩) (by assumption) ?_; (try simp only [Act.put, List.setIfInBounds_toArray, List.set_cons_zero, List.set_cons_succ]))
        | (refine wpAnyH_ready (rs := [20]) (by kernel_rfl) (by simp) ?_; refine AllReadyH.cons (o := _) rfl (fun K hK => ?_) AllReadyH.nil; go_simp; (refine (HA.out _).mono ?_; rintro e_ wA ⟨rfl, hbA⟩); (try go_wp2_with fail); refine hK.out _ _ (by (try dsimp only); (refine and_of (fun hB_ => ⟨cell_up hB_ q0, cell_up hB_ q1, cell_up hB_ q2, cell_up hB_ q3, cell_up hB_ q4, cell_up hB_ q5, cell_up hB_ q6, cell_up hB_ q7, cell_up hB_ q8, cell_up hB_ q9, cell_up hB_ q10, cell_up hB_ q11, cell_up hB_ q12, cell_up hB_ q13, cell_up hB_ q14, cell_up hB_ p0, cell_up hB_ p1, cell_up hB_ p2, cell_up hB_ p3, cell_up hB_ p4, cell_up hB_ p5, cell_up hB_ p6, cell_up hB_ p7, cell_up hB_ p8, cell_up hB_ p9, cell_up hB_ p10, cell_up hB_ p11, cell_up hB_ p12, cell_up hB_ p13, cell_up hB_ p14, cell_up hB_ x8, cell_up hB_ x9, cell_up hB_ x10, cell_up hB_ x11, cell_up hB_ x12, cell_up hB_ x13, cell_up hB_ x14⟩) ?_; first | (with_reducible exact (Below.refl _ _).drew) | (with_reducible exact below_call' (And.left (by assumption)) (by assumption)) | (with_reducible exact And.left (by assumption)))) ?_; clear hHeld hK K; intro hHeld; (try simp only [Act.put, List.setIfInBounds_toArray, List.set_cons_zero, List.set_cons_succ])))
      (first | (refine take_held (i := 21) (d := (some 138)) (v := ?_) rfl rfl (by kernel_rfl) (by kernel_rfl) (by kernel_rfl) (fun _ _ _ h => h) (Or.inl ⟨by rfl, ?_⟩) (by assumption) ?_; rotate_left 1; focus ((intro w hSw; (try dsimp only at hSw); first | (go_simp; done) | (go_simp; with_reducible rfl)); done); (try simp only [Act.put, List.setIfInBounds_toArray, List.set_cons_zero, List.set_cons_succ])))
      (try simp only [Act.put, List.setIfInBounds_toArray, List.set_cons_zero, List.set_cons_succ])
      (first | (refine take_held (i := 22) (d := (some 6)) (v := ?_) rfl rfl (by kernel_rfl) (by kernel_rfl) (by kernel_rfl) (fun _ _ _ h => h) (Or.inl ⟨by rfl, ?_⟩) (by assumption) ?_; rotate_left 1; focus ((intro w hSw; (try dsimp only at hSw); first | (go_simp; done) | (go_simp; with_reducible rfl)); done); (try simp only [Act.put, List.setIfInBounds_toArray, List.set_cons_zero, List.set_cons_succ])))
      (try simp only [Act.put, List.setIfInBounds_toArray, List.set_cons_zero, List.set_cons_succ])
      (try simp only [Act.put, List.setIfInBounds_toArray, List.set_cons_zero, List.set_cons_succ])
      refine wpAnyH_done (by kernel_rfl) ?_ _
      have hbR := And.left hHeld
      clear hHeld
      have bfin := B10.out.trans (hbR.mono B10.out.size)
      clear q0 q1 q2 q3 q4 q5 q6 q7 q8 q9 q10 q11 q12 q13 q14 p0 p1 p2 p3 p4 p5 p6 p7 p8 p9 p10 p11 p12 p13 p14 x8 x9 x10 x11 x12 x13 x14 hbR
      go_wp2
      go_ret
      exact ⟨rfl, bfin⟩
end Go.Proofs.Ytlenfmnkbepoiaa.PSitesTell

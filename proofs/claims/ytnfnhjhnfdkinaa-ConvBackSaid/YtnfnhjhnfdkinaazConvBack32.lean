/-
  ConvBack: texts of this claim, put together by a program of this session. No conditions beyond what each lemma says.
-/
import Derived.Test.YtnfnhjhnfdkinaazConvBack29
import Derived.Test.YtnfnhjhnfdkinaazConvBack31
namespace Go.Proofs.Ytnfnhjhnfdkinaa.PConvBack
open Go.RowKit Go.Proofs.YtnfnhjhnfdkinaaW.Mine Go.Proofs.YtnfnhjhnfdkinaaW.PrintWords Go.Proofs.YtnfnhjhnfdkinaaW.PrintLast Go.Proofs.YtnfnhjhnfdkinaaW.PrintMore
attribute [local go_sem] max2_int min2_int max_two min_two max_three min_three max_four min_four
set_option linter.unusedVariables false
set_option linter.unusedSimpArgs false
theorem conv_u8 (n : Int) (h0 : 0 ≤ n) (h1 : n < 256) : IntKind.i64.wrap n = n := IntWalk.i64_in _ (by omega)
theorem do_yes {lo up : Int} {inn : Bool} {v u : Vl} {p : Ty} (hd : doV lo up inn v p = some u) (ov : Okv v) (op : Okt p) (orr : Okr p) {A6 A7 A8 A3 A4 : Option Addr} {c6 c7 c8 c3 c4 : Nat} {w : World} (hv : RV w v A6 c6 A7 c7 A8 c8) (hp : RT w p A3 c3 A4 c4) :
    Calls Try.prog 44 #[vv v A6 c6 A7 c7 A8 c8, tv p A3 c3 A4 c4, .int .i64 lo, .int .i64 up, .bool inn] w (DoOut w u true) := do_t (b := true) hd (fun h => absurd h (by decide)) ov op orr hv hp
theorem rem_nat (n : Int) (m : Nat) (h0 : 0 ≤ n) : ∃ a : Nat, n % ((m : Int) + 1) = (a : Int) ∧ a ≤ m := by
  have h2 : 0 ≤ n % ((m : Int) + 1) := Int.emod_nonneg _ (by omega)
  have h3 : n % ((m : Int) + 1) < (m : Int) + 1 := Int.emod_lt_of_pos _ (by omega)
  exact ⟨(n % ((m : Int) + 1)).toNat, by omega, by omega⟩
set_option maxHeartbeats 40000000 in
set_option maxRecDepth 100000 in
theorem back_c (l : List Se) (v u : Vl) (p : Ty) (lo : Int) (ol : Oks l) (ov : Okv v) (ou : Okv u) (op : Okt p) (opw : Okw p) (sn : Sn p) (xv : Okx v) (xu : Okx u) (lo0 : 0 ≤ lo) (lo1 : lo < 256)
    {AL A6 A7 A8 B6 B7 B8 A3 A4 : Option Addr} {cL c6 c7 c8 d6 d7 d8 c3 c4 : Nat} {w : World} (hL : RS w AL cL l) (hV : RV w v A6 c6 A7 c7 A8 c8) (hU : RV w u B6 d6 B7 d7 B8 d8) (hP : RT w p A3 c3 A4 c4) :
    Calls Try.prog 12 #[.slice AL l.length cL, vv v A6 c6 A7 c7 A8 c8, vv u B6 d6 B7 d7 B8 d8, tv p A3 c3 A4 c4, .int .u8 lo] w (Yes w) := by
  obtain ⟨bp, hbp, cRP⟩ := lright_c op opw
  obtain ⟨bh, hbh, cH⟩ := lhas_c op
  obtain ⟨a, ha, hal⟩ := rem_nat lo l.length lo0
  have CRP := Aside0.mk @cRP
  have CH := Aside0.mk @cH
  have HBH := Aside0.mk hbh
  have CW := Aside0.mk (rightv_c _ v (Nat.lt_succ_self _) ov xv)
  have CX := Aside0.mk (rightv_c _ u (Nat.lt_succ_self _) ou xu)
  have HBP := Aside0.mk hbp
  have HA := Aside0.mk ha
  have HAL := Aside0.mk hal
  have OL := Aside0.mk ol
  have hlen : l.length < 4611686018427387904 := by have := ol.len; omega
  have hcv := conv_u8 lo lo0 lo1
  have hw1 : wrap64 ((l.length : Int) + 1) = (l.length : Int) + 1 := wrap_ok (by omega) (by omega)
  have hw2 : IntKind.i64.wrap ((l.length : Int) + 1) = (l.length : Int) + 1 := IntWalk.i64_in _ (by omega)
  have hne : ¬ ((l.length : Int) + 1 = 0) := by omega
  clear cRP hbp ha hal ol cH hbh xv xu
  obtain ⟨⟨kV, kU, kP⟩, b0, sz0⟩ := threeb w (vcells v A6 c6 A7 c7 A8 c8) (vcells u B6 d6 B7 d7 B8 d8) (tarr p A3 c3 A4 c4) 55 55 25
  replace hL := hL.below b0
  replace hV := hV.below b0
  replace hU := hU.below b0
  replace hP := hP.below b0
  clear sz0
  go_enter Try.func12, Try.ntmps12
  obtain ⟨⟨Vc0, Vc1, Vc2, Vc3, Vc4, Vc5, Vc6, Vc7, Vc8, Vc9⟩, ⟨Vf0, Vf1, Vf2, Vf3, Vf4, Vf5, Vf6, Vf7, Vf8, Vf9⟩, Vl⟩ := ten kV
  obtain ⟨⟨Uc0, Uc1, Uc2, Uc3, Uc4, Uc5, Uc6, Uc7, Uc8, Uc9⟩, ⟨Uf0, Uf1, Uf2, Uf3, Uf4, Uf5, Uf6, Uf7, Uf8, Uf9⟩, Ul⟩ := ten kU
  obtain ⟨⟨Pc0, Pc1, Pc2, Pc3, Pc4⟩, ⟨Pf0, Pf1, Pf2, Pf3, Pf4⟩, Pl⟩ := five kP
  go_wp2_with fail
  rw [HA.out]
  refine (few_n OL.out hL).mono ?_
  rintro e_ w_ ⟨fe, rfl, hb⟩
  clear Vc0 Vc1 Vc2 Vc3 Vc4 Vc5 Vc6 Vc7 Vc8 Vc9 Vf0 Vf1 Vf2 Vf3 Vf4 Vf5 Vf6 Vf7 Vf8 Vf9 Vl Uc0 Uc1 Uc2 Uc3 Uc4 Uc5 Uc6 Uc7 Uc8 Uc9 Uf0 Uf1 Uf2 Uf3 Uf4 Uf5 Uf6 Uf7 Uf8 Uf9 Ul Pc0 Pc1 Pc2 Pc3 Pc4 Pf0 Pf1 Pf2 Pf3 Pf4 Pl
  have b_1 := chain b0 hb
  replace kV := blk_below kV hb
  replace kU := blk_below kU hb
  replace kP := blk_below kP hb
  replace hL := hL.below hb
  replace hV := hV.below hb
  replace hU := hU.below hb
  replace hP := hP.below hb
  clear b0
  clear hb
  by_cases hfe : 60 < fe
  · have cfe : decide (60 < fe) = true := decide_eq_true hfe
    obtain ⟨⟨Vc0, Vc1, Vc2, Vc3, Vc4, Vc5, Vc6, Vc7, Vc8, Vc9⟩, ⟨Vf0, Vf1, Vf2, Vf3, Vf4, Vf5, Vf6, Vf7, Vf8, Vf9⟩, Vl⟩ := ten kV
    obtain ⟨⟨Uc0, Uc1, Uc2, Uc3, Uc4, Uc5, Uc6, Uc7, Uc8, Uc9⟩, ⟨Uf0, Uf1, Uf2, Uf3, Uf4, Uf5, Uf6, Uf7, Uf8, Uf9⟩, Ul⟩ := ten kU
    obtain ⟨⟨Pc0, Pc1, Pc2, Pc3, Pc4⟩, ⟨Pf0, Pf1, Pf2, Pf3, Pf4⟩, Pl⟩ := five kP
    go_wp2_with fail
    refine (awake_c _).mono ?_
    rintro e_ w_ ⟨rfl, hb⟩
    clear Vc0 Vc1 Vc2 Vc3 Vc4 Vc5 Vc6 Vc7 Vc8 Vc9 Vf0 Vf1 Vf2 Vf3 Vf4 Vf5 Vf6 Vf7 Vf8 Vf9 Vl Uc0 Uc1 Uc2 Uc3 Uc4 Uc5 Uc6 Uc7 Uc8 Uc9 Uf0 Uf1 Uf2 Uf3 Uf4 Uf5 Uf6 Uf7 Uf8 Uf9 Ul Pc0 Pc1 Pc2 Pc3 Pc4 Pf0 Pf1 Pf2 Pf3 Pf4 Pl
    have b_2 := chain b_1 hb
    replace kV := blk_below kV hb
    replace kU := blk_below kU hb
    replace kP := blk_below kP hb
    replace hL := hL.below hb
    replace hV := hV.below hb
    replace hU := hU.below hb
    replace hP := hP.below hb
    clear b_1
    clear hb
    obtain ⟨⟨Vc0, Vc1, Vc2, Vc3, Vc4, Vc5, Vc6, Vc7, Vc8, Vc9⟩, ⟨Vf0, Vf1, Vf2, Vf3, Vf4, Vf5, Vf6, Vf7, Vf8, Vf9⟩, Vl⟩ := ten kV
    obtain ⟨⟨Uc0, Uc1, Uc2, Uc3, Uc4, Uc5, Uc6, Uc7, Uc8, Uc9⟩, ⟨Uf0, Uf1, Uf2, Uf3, Uf4, Uf5, Uf6, Uf7, Uf8, Uf9⟩, Ul⟩ := ten kU
    obtain ⟨⟨Pc0, Pc1, Pc2, Pc3, Pc4⟩, ⟨Pf0, Pf1, Pf2, Pf3, Pf4⟩, Pl⟩ := five kP
    go_wp2
    go_ret
    exact ⟨rfl, b_2⟩
  have cfe : decide (60 < fe) = false := decide_eq_false hfe
  clear hfe
  obtain ⟨⟨Vc0, Vc1, Vc2, Vc3, Vc4, Vc5, Vc6, Vc7, Vc8, Vc9⟩, ⟨Vf0, Vf1, Vf2, Vf3, Vf4, Vf5, Vf6, Vf7, Vf8, Vf9⟩, Vl⟩ := ten kV
  obtain ⟨⟨Uc0, Uc1, Uc2, Uc3, Uc4, Uc5, Uc6, Uc7, Uc8, Uc9⟩, ⟨Uf0, Uf1, Uf2, Uf3, Uf4, Uf5, Uf6, Uf7, Uf8, Uf9⟩, Ul⟩ := ten kU
  obtain ⟨⟨Pc0, Pc1, Pc2, Pc3, Pc4⟩, ⟨Pf0, Pf1, Pf2, Pf3, Pf4⟩, Pl⟩ := five kP
  go_wp2_with fail
  refine (muchv _ v (Nat.lt_succ_self _) ov _ _ _ _ _ _ _ hV).mono ?_
  rintro e_ w_ ⟨mv, rfl, hb⟩
  clear Vc0 Vc1 Vc2 Vc3 Vc4 Vc5 Vc6 Vc7 Vc8 Vc9 Vf0 Vf1 Vf2 Vf3 Vf4 Vf5 Vf6 Vf7 Vf8 Vf9 Vl Uc0 Uc1 Uc2 Uc3 Uc4 Uc5 Uc6 Uc7 Uc8 Uc9 Uf0 Uf1 Uf2 Uf3 Uf4 Uf5 Uf6 Uf7 Uf8 Uf9 Ul Pc0 Pc1 Pc2 Pc3 Pc4 Pf0 Pf1 Pf2 Pf3 Pf4 Pl
  have b_3 := chain b_1 hb
  replace kV := blk_below kV hb
  replace kU := blk_below kU hb
  replace kP := blk_below kP hb
  replace hL := hL.below hb
  replace hV := hV.below hb
  replace hU := hU.below hb
  replace hP := hP.below hb
  clear b_1
  clear hb
  by_cases hmv : 200 < mv
  · have cmv : decide (200 < mv) = true := decide_eq_true hmv
    obtain ⟨⟨Vc0, Vc1, Vc2, Vc3, Vc4, Vc5, Vc6, Vc7, Vc8, Vc9⟩, ⟨Vf0, Vf1, Vf2, Vf3, Vf4, Vf5, Vf6, Vf7, Vf8, Vf9⟩, Vl⟩ := ten kV
    obtain ⟨⟨Uc0, Uc1, Uc2, Uc3, Uc4, Uc5, Uc6, Uc7, Uc8, Uc9⟩, ⟨Uf0, Uf1, Uf2, Uf3, Uf4, Uf5, Uf6, Uf7, Uf8, Uf9⟩, Ul⟩ := ten kU
    obtain ⟨⟨Pc0, Pc1, Pc2, Pc3, Pc4⟩, ⟨Pf0, Pf1, Pf2, Pf3, Pf4⟩, Pl⟩ := five kP
    go_wp2_with fail
    refine (awake_c _).mono ?_
    rintro e_ w_ ⟨rfl, hb⟩
    clear Vc0 Vc1 Vc2 Vc3 Vc4 Vc5 Vc6 Vc7 Vc8 Vc9 Vf0 Vf1 Vf2 Vf3 Vf4 Vf5 Vf6 Vf7 Vf8 Vf9 Vl Uc0 Uc1 Uc2 Uc3 Uc4 Uc5 Uc6 Uc7 Uc8 Uc9 Uf0 Uf1 Uf2 Uf3 Uf4 Uf5 Uf6 Uf7 Uf8 Uf9 Ul Pc0 Pc1 Pc2 Pc3 Pc4 Pf0 Pf1 Pf2 Pf3 Pf4 Pl
    have b_4 := chain b_3 hb
    replace kV := blk_below kV hb
    replace kU := blk_below kU hb
    replace kP := blk_below kP hb
    replace hL := hL.below hb
    replace hV := hV.below hb
    replace hU := hU.below hb
    replace hP := hP.below hb
    clear b_3
    clear hb
    obtain ⟨⟨Vc0, Vc1, Vc2, Vc3, Vc4, Vc5, Vc6, Vc7, Vc8, Vc9⟩, ⟨Vf0, Vf1, Vf2, Vf3, Vf4, Vf5, Vf6, Vf7, Vf8, Vf9⟩, Vl⟩ := ten kV
    obtain ⟨⟨Uc0, Uc1, Uc2, Uc3, Uc4, Uc5, Uc6, Uc7, Uc8, Uc9⟩, ⟨Uf0, Uf1, Uf2, Uf3, Uf4, Uf5, Uf6, Uf7, Uf8, Uf9⟩, Ul⟩ := ten kU
    obtain ⟨⟨Pc0, Pc1, Pc2, Pc3, Pc4⟩, ⟨Pf0, Pf1, Pf2, Pf3, Pf4⟩, Pl⟩ := five kP
    go_wp2
    go_ret
    exact ⟨rfl, b_4⟩
  have cmv : decide (200 < mv) = false := decide_eq_false hmv
  clear hmv
  obtain ⟨⟨Vc0, Vc1, Vc2, Vc3, Vc4, Vc5, Vc6, Vc7, Vc8, Vc9⟩, ⟨Vf0, Vf1, Vf2, Vf3, Vf4, Vf5, Vf6, Vf7, Vf8, Vf9⟩, Vl⟩ := ten kV
  obtain ⟨⟨Uc0, Uc1, Uc2, Uc3, Uc4, Uc5, Uc6, Uc7, Uc8, Uc9⟩, ⟨Uf0, Uf1, Uf2, Uf3, Uf4, Uf5, Uf6, Uf7, Uf8, Uf9⟩, Ul⟩ := ten kU
  obtain ⟨⟨Pc0, Pc1, Pc2, Pc3, Pc4⟩, ⟨Pf0, Pf1, Pf2, Pf3, Pf4⟩, Pl⟩ := five kP
  go_wp2_with fail
  refine (muchv _ u (Nat.lt_succ_self _) ou _ _ _ _ _ _ _ hU).mono ?_
  rintro e_ w_ ⟨mu, rfl, hb⟩
  clear Vc0 Vc1 Vc2 Vc3 Vc4 Vc5 Vc6 Vc7 Vc8 Vc9 Vf0 Vf1 Vf2 Vf3 Vf4 Vf5 Vf6 Vf7 Vf8 Vf9 Vl Uc0 Uc1 Uc2 Uc3 Uc4 Uc5 Uc6 Uc7 Uc8 Uc9 Uf0 Uf1 Uf2 Uf3 Uf4 Uf5 Uf6 Uf7 Uf8 Uf9 Ul Pc0 Pc1 Pc2 Pc3 Pc4 Pf0 Pf1 Pf2 Pf3 Pf4 Pl
  have b_5 := chain b_3 hb
  replace kV := blk_below kV hb
  replace kU := blk_below kU hb
  replace kP := blk_below kP hb
  replace hL := hL.below hb
  replace hV := hV.below hb
  replace hU := hU.below hb
  replace hP := hP.below hb
  clear b_3
  clear hb
  by_cases hmu : 200 < mu
  · have cmu : decide (200 < mu) = true := decide_eq_true hmu
    obtain ⟨⟨Vc0, Vc1, Vc2, Vc3, Vc4, Vc5, Vc6, Vc7, Vc8, Vc9⟩, ⟨Vf0, Vf1, Vf2, Vf3, Vf4, Vf5, Vf6, Vf7, Vf8, Vf9⟩, Vl⟩ := ten kV
    obtain ⟨⟨Uc0, Uc1, Uc2, Uc3, Uc4, Uc5, Uc6, Uc7, Uc8, Uc9⟩, ⟨Uf0, Uf1, Uf2, Uf3, Uf4, Uf5, Uf6, Uf7, Uf8, Uf9⟩, Ul⟩ := ten kU
    obtain ⟨⟨Pc0, Pc1, Pc2, Pc3, Pc4⟩, ⟨Pf0, Pf1, Pf2, Pf3, Pf4⟩, Pl⟩ := five kP
    go_wp2_with fail
    refine (awake_c _).mono ?_
    rintro e_ w_ ⟨rfl, hb⟩
    clear Vc0 Vc1 Vc2 Vc3 Vc4 Vc5 Vc6 Vc7 Vc8 Vc9 Vf0 Vf1 Vf2 Vf3 Vf4 Vf5 Vf6 Vf7 Vf8 Vf9 Vl Uc0 Uc1 Uc2 Uc3 Uc4 Uc5 Uc6 Uc7 Uc8 Uc9 Uf0 Uf1 Uf2 Uf3 Uf4 Uf5 Uf6 Uf7 Uf8 Uf9 Ul Pc0 Pc1 Pc2 Pc3 Pc4 Pf0 Pf1 Pf2 Pf3 Pf4 Pl
    have b_6 := chain b_5 hb
    replace kV := blk_below kV hb
    replace kU := blk_below kU hb
    replace kP := blk_below kP hb
    replace hL := hL.below hb
    replace hV := hV.below hb
    replace hU := hU.below hb
    replace hP := hP.below hb
    clear b_5
    clear hb
    obtain ⟨⟨Vc0, Vc1, Vc2, Vc3, Vc4, Vc5, Vc6, Vc7, Vc8, Vc9⟩, ⟨Vf0, Vf1, Vf2, Vf3, Vf4, Vf5, Vf6, Vf7, Vf8, Vf9⟩, Vl⟩ := ten kV
    obtain ⟨⟨Uc0, Uc1, Uc2, Uc3, Uc4, Uc5, Uc6, Uc7, Uc8, Uc9⟩, ⟨Uf0, Uf1, Uf2, Uf3, Uf4, Uf5, Uf6, Uf7, Uf8, Uf9⟩, Ul⟩ := ten kU
    obtain ⟨⟨Pc0, Pc1, Pc2, Pc3, Pc4⟩, ⟨Pf0, Pf1, Pf2, Pf3, Pf4⟩, Pl⟩ := five kP
    go_wp2
    go_ret
    exact ⟨rfl, b_6⟩
  have cmu : decide (200 < mu) = false := decide_eq_false hmu
  clear hmu
  obtain ⟨⟨Vc0, Vc1, Vc2, Vc3, Vc4, Vc5, Vc6, Vc7, Vc8, Vc9⟩, ⟨Vf0, Vf1, Vf2, Vf3, Vf4, Vf5, Vf6, Vf7, Vf8, Vf9⟩, Vl⟩ := ten kV
  obtain ⟨⟨Uc0, Uc1, Uc2, Uc3, Uc4, Uc5, Uc6, Uc7, Uc8, Uc9⟩, ⟨Uf0, Uf1, Uf2, Uf3, Uf4, Uf5, Uf6, Uf7, Uf8, Uf9⟩, Ul⟩ := ten kU
  obtain ⟨⟨Pc0, Pc1, Pc2, Pc3, Pc4⟩, ⟨Pf0, Pf1, Pf2, Pf3, Pf4⟩, Pl⟩ := five kP
  go_wp2_with fail
  refine (mucht _ p (Nat.lt_succ_self _) op _ _ _ _ _ hP).mono ?_
  rintro e_ w_ ⟨mp, rfl, hb⟩
  clear Vc0 Vc1 Vc2 Vc3 Vc4 Vc5 Vc6 Vc7 Vc8 Vc9 Vf0 Vf1 Vf2 Vf3 Vf4 Vf5 Vf6 Vf7 Vf8 Vf9 Vl Uc0 Uc1 Uc2 Uc3 Uc4 Uc5 Uc6 Uc7 Uc8 Uc9 Uf0 Uf1 Uf2 Uf3 Uf4 Uf5 Uf6 Uf7 Uf8 Uf9 Ul Pc0 Pc1 Pc2 Pc3 Pc4 Pf0 Pf1 Pf2 Pf3 Pf4 Pl
  have b_7 := chain b_5 hb
  replace kV := blk_below kV hb
  replace kU := blk_below kU hb
  replace kP := blk_below kP hb
  replace hL := hL.below hb
  replace hV := hV.below hb
  replace hU := hU.below hb
  replace hP := hP.below hb
  clear b_5
  clear hb
  by_cases hmp : 100 < mp
  · have cmp : decide (100 < mp) = true := decide_eq_true hmp
    obtain ⟨⟨Vc0, Vc1, Vc2, Vc3, Vc4, Vc5, Vc6, Vc7, Vc8, Vc9⟩, ⟨Vf0, Vf1, Vf2, Vf3, Vf4, Vf5, Vf6, Vf7, Vf8, Vf9⟩, Vl⟩ := ten kV
    obtain ⟨⟨Uc0, Uc1, Uc2, Uc3, Uc4, Uc5, Uc6, Uc7, Uc8, Uc9⟩, ⟨Uf0, Uf1, Uf2, Uf3, Uf4, Uf5, Uf6, Uf7, Uf8, Uf9⟩, Ul⟩ := ten kU
    obtain ⟨⟨Pc0, Pc1, Pc2, Pc3, Pc4⟩, ⟨Pf0, Pf1, Pf2, Pf3, Pf4⟩, Pl⟩ := five kP
    go_wp2_with fail
    refine (awake_c _).mono ?_
    rintro e_ w_ ⟨rfl, hb⟩
    clear Vc0 Vc1 Vc2 Vc3 Vc4 Vc5 Vc6 Vc7 Vc8 Vc9 Vf0 Vf1 Vf2 Vf3 Vf4 Vf5 Vf6 Vf7 Vf8 Vf9 Vl Uc0 Uc1 Uc2 Uc3 Uc4 Uc5 Uc6 Uc7 Uc8 Uc9 Uf0 Uf1 Uf2 Uf3 Uf4 Uf5 Uf6 Uf7 Uf8 Uf9 Ul Pc0 Pc1 Pc2 Pc3 Pc4 Pf0 Pf1 Pf2 Pf3 Pf4 Pl
    have b_8 := chain b_7 hb
    replace kV := blk_below kV hb
    replace kU := blk_below kU hb
    replace kP := blk_below kP hb
    replace hL := hL.below hb
    replace hV := hV.below hb
    replace hU := hU.below hb
    replace hP := hP.below hb
    clear b_7
    clear hb
    obtain ⟨⟨Vc0, Vc1, Vc2, Vc3, Vc4, Vc5, Vc6, Vc7, Vc8, Vc9⟩, ⟨Vf0, Vf1, Vf2, Vf3, Vf4, Vf5, Vf6, Vf7, Vf8, Vf9⟩, Vl⟩ := ten kV
    obtain ⟨⟨Uc0, Uc1, Uc2, Uc3, Uc4, Uc5, Uc6, Uc7, Uc8, Uc9⟩, ⟨Uf0, Uf1, Uf2, Uf3, Uf4, Uf5, Uf6, Uf7, Uf8, Uf9⟩, Ul⟩ := ten kU
    obtain ⟨⟨Pc0, Pc1, Pc2, Pc3, Pc4⟩, ⟨Pf0, Pf1, Pf2, Pf3, Pf4⟩, Pl⟩ := five kP
    go_wp2
    go_ret
    exact ⟨rfl, b_8⟩
  have cmp : decide (100 < mp) = false := decide_eq_false hmp
  clear hmp
  obtain ⟨⟨Vc0, Vc1, Vc2, Vc3, Vc4, Vc5, Vc6, Vc7, Vc8, Vc9⟩, ⟨Vf0, Vf1, Vf2, Vf3, Vf4, Vf5, Vf6, Vf7, Vf8, Vf9⟩, Vl⟩ := ten kV
  obtain ⟨⟨Uc0, Uc1, Uc2, Uc3, Uc4, Uc5, Uc6, Uc7, Uc8, Uc9⟩, ⟨Uf0, Uf1, Uf2, Uf3, Uf4, Uf5, Uf6, Uf7, Uf8, Uf9⟩, Ul⟩ := ten kU
  obtain ⟨⟨Pc0, Pc1, Pc2, Pc3, Pc4⟩, ⟨Pf0, Pf1, Pf2, Pf3, Pf4⟩, Pl⟩ := five kP
  go_wp2_with fail
  refine (rseals_c OL.out hL).mono ?_
  rintro e_ w_ ⟨br, rfl, hbr, hb⟩
  clear Vc0 Vc1 Vc2 Vc3 Vc4 Vc5 Vc6 Vc7 Vc8 Vc9 Vf0 Vf1 Vf2 Vf3 Vf4 Vf5 Vf6 Vf7 Vf8 Vf9 Vl Uc0 Uc1 Uc2 Uc3 Uc4 Uc5 Uc6 Uc7 Uc8 Uc9 Uf0 Uf1 Uf2 Uf3 Uf4 Uf5 Uf6 Uf7 Uf8 Uf9 Ul Pc0 Pc1 Pc2 Pc3 Pc4 Pf0 Pf1 Pf2 Pf3 Pf4 Pl
  have b_9 := chain b_7 hb
  replace kV := blk_below kV hb
  replace kU := blk_below kU hb
  replace kP := blk_below kP hb
  replace hL := hL.below hb
  replace hV := hV.below hb
  replace hU := hU.below hb
  replace hP := hP.below hb
  clear b_7
  clear hb
  have HBR := Aside0.mk hbr
  clear hbr
  cases br with
  | false =>
    obtain ⟨⟨Vc0, Vc1, Vc2, Vc3, Vc4, Vc5, Vc6, Vc7, Vc8, Vc9⟩, ⟨Vf0, Vf1, Vf2, Vf3, Vf4, Vf5, Vf6, Vf7, Vf8, Vf9⟩, Vl⟩ := ten kV
    obtain ⟨⟨Uc0, Uc1, Uc2, Uc3, Uc4, Uc5, Uc6, Uc7, Uc8, Uc9⟩, ⟨Uf0, Uf1, Uf2, Uf3, Uf4, Uf5, Uf6, Uf7, Uf8, Uf9⟩, Ul⟩ := ten kU
    obtain ⟨⟨Pc0, Pc1, Pc2, Pc3, Pc4⟩, ⟨Pf0, Pf1, Pf2, Pf3, Pf4⟩, Pl⟩ := five kP
    go_wp2_with fail
    refine (awake_c _).mono ?_
    rintro e_ w_ ⟨rfl, hb⟩
    clear Vc0 Vc1 Vc2 Vc3 Vc4 Vc5 Vc6 Vc7 Vc8 Vc9 Vf0 Vf1 Vf2 Vf3 Vf4 Vf5 Vf6 Vf7 Vf8 Vf9 Vl Uc0 Uc1 Uc2 Uc3 Uc4 Uc5 Uc6 Uc7 Uc8 Uc9 Uf0 Uf1 Uf2 Uf3 Uf4 Uf5 Uf6 Uf7 Uf8 Uf9 Ul Pc0 Pc1 Pc2 Pc3 Pc4 Pf0 Pf1 Pf2 Pf3 Pf4 Pl
    have b_10 := chain b_9 hb
    replace kV := blk_below kV hb
    replace kU := blk_below kU hb
    replace kP := blk_below kP hb
    replace hL := hL.below hb
    replace hV := hV.below hb
    replace hU := hU.below hb
    replace hP := hP.below hb
    clear b_9
    clear hb
    obtain ⟨⟨Vc0, Vc1, Vc2, Vc3, Vc4, Vc5, Vc6, Vc7, Vc8, Vc9⟩, ⟨Vf0, Vf1, Vf2, Vf3, Vf4, Vf5, Vf6, Vf7, Vf8, Vf9⟩, Vl⟩ := ten kV
    obtain ⟨⟨Uc0, Uc1, Uc2, Uc3, Uc4, Uc5, Uc6, Uc7, Uc8, Uc9⟩, ⟨Uf0, Uf1, Uf2, Uf3, Uf4, Uf5, Uf6, Uf7, Uf8, Uf9⟩, Ul⟩ := ten kU
    obtain ⟨⟨Pc0, Pc1, Pc2, Pc3, Pc4⟩, ⟨Pf0, Pf1, Pf2, Pf3, Pf4⟩, Pl⟩ := five kP
    go_wp2
    go_ret
    exact ⟨rfl, b_10⟩
  | true =>
    have hl30 := HBR.out (by first | rfl | trivial)
    obtain ⟨⟨Vc0, Vc1, Vc2, Vc3, Vc4, Vc5, Vc6, Vc7, Vc8, Vc9⟩, ⟨Vf0, Vf1, Vf2, Vf3, Vf4, Vf5, Vf6, Vf7, Vf8, Vf9⟩, Vl⟩ := ten kV
    obtain ⟨⟨Uc0, Uc1, Uc2, Uc3, Uc4, Uc5, Uc6, Uc7, Uc8, Uc9⟩, ⟨Uf0, Uf1, Uf2, Uf3, Uf4, Uf5, Uf6, Uf7, Uf8, Uf9⟩, Ul⟩ := ten kU
    obtain ⟨⟨Pc0, Pc1, Pc2, Pc3, Pc4⟩, ⟨Pf0, Pf1, Pf2, Pf3, Pf4⟩, Pl⟩ := five kP
    go_wp2_with fail
    refine (CRP.out hP).mono ?_
    rintro e_ w_ ⟨rfl, hb⟩
    clear Vc0 Vc1 Vc2 Vc3 Vc4 Vc5 Vc6 Vc7 Vc8 Vc9 Vf0 Vf1 Vf2 Vf3 Vf4 Vf5 Vf6 Vf7 Vf8 Vf9 Vl Uc0 Uc1 Uc2 Uc3 Uc4 Uc5 Uc6 Uc7 Uc8 Uc9 Uf0 Uf1 Uf2 Uf3 Uf4 Uf5 Uf6 Uf7 Uf8 Uf9 Ul Pc0 Pc1 Pc2 Pc3 Pc4 Pf0 Pf1 Pf2 Pf3 Pf4 Pl
    have b_11 := chain b_9 hb
    replace kV := blk_below kV hb
    replace kU := blk_below kU hb
    replace kP := blk_below kP hb
    replace hL := hL.below hb
    replace hV := hV.below hb
    replace hU := hU.below hb
    replace hP := hP.below hb
    clear b_9
    clear hb
    cases bp with
    | false =>
      obtain ⟨⟨Vc0, Vc1, Vc2, Vc3, Vc4, Vc5, Vc6, Vc7, Vc8, Vc9⟩, ⟨Vf0, Vf1, Vf2, Vf3, Vf4, Vf5, Vf6, Vf7, Vf8, Vf9⟩, Vl⟩ := ten kV
      obtain ⟨⟨Uc0, Uc1, Uc2, Uc3, Uc4, Uc5, Uc6, Uc7, Uc8, Uc9⟩, ⟨Uf0, Uf1, Uf2, Uf3, Uf4, Uf5, Uf6, Uf7, Uf8, Uf9⟩, Ul⟩ := ten kU
      obtain ⟨⟨Pc0, Pc1, Pc2, Pc3, Pc4⟩, ⟨Pf0, Pf1, Pf2, Pf3, Pf4⟩, Pl⟩ := five kP
      go_wp2_with fail
      refine (awake_c _).mono ?_
      rintro e_ w_ ⟨rfl, hb⟩
      clear Vc0 Vc1 Vc2 Vc3 Vc4 Vc5 Vc6 Vc7 Vc8 Vc9 Vf0 Vf1 Vf2 Vf3 Vf4 Vf5 Vf6 Vf7 Vf8 Vf9 Vl Uc0 Uc1 Uc2 Uc3 Uc4 Uc5 Uc6 Uc7 Uc8 Uc9 Uf0 Uf1 Uf2 Uf3 Uf4 Uf5 Uf6 Uf7 Uf8 Uf9 Ul Pc0 Pc1 Pc2 Pc3 Pc4 Pf0 Pf1 Pf2 Pf3 Pf4 Pl
      have b_12 := chain b_11 hb
      replace kV := blk_below kV hb
      replace kU := blk_below kU hb
      replace kP := blk_below kP hb
      replace hL := hL.below hb
      replace hV := hV.below hb
      replace hU := hU.below hb
      replace hP := hP.below hb
      clear b_11
      clear hb
      obtain ⟨⟨Vc0, Vc1, Vc2, Vc3, Vc4, Vc5, Vc6, Vc7, Vc8, Vc9⟩, ⟨Vf0, Vf1, Vf2, Vf3, Vf4, Vf5, Vf6, Vf7, Vf8, Vf9⟩, Vl⟩ := ten kV
      obtain ⟨⟨Uc0, Uc1, Uc2, Uc3, Uc4, Uc5, Uc6, Uc7, Uc8, Uc9⟩, ⟨Uf0, Uf1, Uf2, Uf3, Uf4, Uf5, Uf6, Uf7, Uf8, Uf9⟩, Ul⟩ := ten kU
      obtain ⟨⟨Pc0, Pc1, Pc2, Pc3, Pc4⟩, ⟨Pf0, Pf1, Pf2, Pf3, Pf4⟩, Pl⟩ := five kP
      go_wp2
      go_ret
      exact ⟨rfl, b_12⟩
    | true =>
      obtain ⟨⟨Vc0, Vc1, Vc2, Vc3, Vc4, Vc5, Vc6, Vc7, Vc8, Vc9⟩, ⟨Vf0, Vf1, Vf2, Vf3, Vf4, Vf5, Vf6, Vf7, Vf8, Vf9⟩, Vl⟩ := ten kV
      obtain ⟨⟨Uc0, Uc1, Uc2, Uc3, Uc4, Uc5, Uc6, Uc7, Uc8, Uc9⟩, ⟨Uf0, Uf1, Uf2, Uf3, Uf4, Uf5, Uf6, Uf7, Uf8, Uf9⟩, Ul⟩ := ten kU
      obtain ⟨⟨Pc0, Pc1, Pc2, Pc3, Pc4⟩, ⟨Pf0, Pf1, Pf2, Pf3, Pf4⟩, Pl⟩ := five kP
      go_wp2_with fail
      refine (CH.out hP).mono ?_
      rintro e_ w_ ⟨rfl, hb⟩
      clear Vc0 Vc1 Vc2 Vc3 Vc4 Vc5 Vc6 Vc7 Vc8 Vc9 Vf0 Vf1 Vf2 Vf3 Vf4 Vf5 Vf6 Vf7 Vf8 Vf9 Vl Uc0 Uc1 Uc2 Uc3 Uc4 Uc5 Uc6 Uc7 Uc8 Uc9 Uf0 Uf1 Uf2 Uf3 Uf4 Uf5 Uf6 Uf7 Uf8 Uf9 Ul Pc0 Pc1 Pc2 Pc3 Pc4 Pf0 Pf1 Pf2 Pf3 Pf4 Pl
      have b_13 := chain b_11 hb
      replace kV := blk_below kV hb
      replace kU := blk_below kU hb
      replace kP := blk_below kP hb
      replace hL := hL.below hb
      replace hV := hV.below hb
      replace hU := hU.below hb
      replace hP := hP.below hb
      clear b_11
      clear hb
      cases bh with
      | true =>
        obtain ⟨⟨Vc0, Vc1, Vc2, Vc3, Vc4, Vc5, Vc6, Vc7, Vc8, Vc9⟩, ⟨Vf0, Vf1, Vf2, Vf3, Vf4, Vf5, Vf6, Vf7, Vf8, Vf9⟩, Vl⟩ := ten kV
        obtain ⟨⟨Uc0, Uc1, Uc2, Uc3, Uc4, Uc5, Uc6, Uc7, Uc8, Uc9⟩, ⟨Uf0, Uf1, Uf2, Uf3, Uf4, Uf5, Uf6, Uf7, Uf8, Uf9⟩, Ul⟩ := ten kU
        obtain ⟨⟨Pc0, Pc1, Pc2, Pc3, Pc4⟩, ⟨Pf0, Pf1, Pf2, Pf3, Pf4⟩, Pl⟩ := five kP
        go_wp2_with fail
        refine (awake_c _).mono ?_
        rintro e_ w_ ⟨rfl, hb⟩
        clear Vc0 Vc1 Vc2 Vc3 Vc4 Vc5 Vc6 Vc7 Vc8 Vc9 Vf0 Vf1 Vf2 Vf3 Vf4 Vf5 Vf6 Vf7 Vf8 Vf9 Vl Uc0 Uc1 Uc2 Uc3 Uc4 Uc5 Uc6 Uc7 Uc8 Uc9 Uf0 Uf1 Uf2 Uf3 Uf4 Uf5 Uf6 Uf7 Uf8 Uf9 Ul Pc0 Pc1 Pc2 Pc3 Pc4 Pf0 Pf1 Pf2 Pf3 Pf4 Pl
        have b_14 := chain b_13 hb
        replace kV := blk_below kV hb
        replace kU := blk_below kU hb
        replace kP := blk_below kP hb
        replace hL := hL.below hb
        replace hV := hV.below hb
        replace hU := hU.below hb
        replace hP := hP.below hb
        clear b_13
        clear hb
        obtain ⟨⟨Vc0, Vc1, Vc2, Vc3, Vc4, Vc5, Vc6, Vc7, Vc8, Vc9⟩, ⟨Vf0, Vf1, Vf2, Vf3, Vf4, Vf5, Vf6, Vf7, Vf8, Vf9⟩, Vl⟩ := ten kV
        obtain ⟨⟨Uc0, Uc1, Uc2, Uc3, Uc4, Uc5, Uc6, Uc7, Uc8, Uc9⟩, ⟨Uf0, Uf1, Uf2, Uf3, Uf4, Uf5, Uf6, Uf7, Uf8, Uf9⟩, Ul⟩ := ten kU
        obtain ⟨⟨Pc0, Pc1, Pc2, Pc3, Pc4⟩, ⟨Pf0, Pf1, Pf2, Pf3, Pf4⟩, Pl⟩ := five kP
        go_wp2
        go_ret
        exact ⟨rfl, b_14⟩
      | false =>
        obtain ⟨⟨Vc0, Vc1, Vc2, Vc3, Vc4, Vc5, Vc6, Vc7, Vc8, Vc9⟩, ⟨Vf0, Vf1, Vf2, Vf3, Vf4, Vf5, Vf6, Vf7, Vf8, Vf9⟩, Vl⟩ := ten kV
        obtain ⟨⟨Uc0, Uc1, Uc2, Uc3, Uc4, Uc5, Uc6, Uc7, Uc8, Uc9⟩, ⟨Uf0, Uf1, Uf2, Uf3, Uf4, Uf5, Uf6, Uf7, Uf8, Uf9⟩, Ul⟩ := ten kU
        obtain ⟨⟨Pc0, Pc1, Pc2, Pc3, Pc4⟩, ⟨Pf0, Pf1, Pf2, Pf3, Pf4⟩, Pl⟩ := five kP
        go_wp2_with fail
        refine (CW.out _ _ _ _ _ _ _ hV).mono ?_
        rintro e_ w_ ⟨bw, rfl, hbw, hb⟩
        clear Vc0 Vc1 Vc2 Vc3 Vc4 Vc5 Vc6 Vc7 Vc8 Vc9 Vf0 Vf1 Vf2 Vf3 Vf4 Vf5 Vf6 Vf7 Vf8 Vf9 Vl Uc0 Uc1 Uc2 Uc3 Uc4 Uc5 Uc6 Uc7 Uc8 Uc9 Uf0 Uf1 Uf2 Uf3 Uf4 Uf5 Uf6 Uf7 Uf8 Uf9 Ul Pc0 Pc1 Pc2 Pc3 Pc4 Pf0 Pf1 Pf2 Pf3 Pf4 Pl
        have b_15 := chain b_13 hb
        replace kV := blk_below kV hb
        replace kU := blk_below kU hb
        replace kP := blk_below kP hb
        replace hL := hL.below hb
        replace hV := hV.below hb
        replace hU := hU.below hb
        replace hP := hP.below hb
        clear b_13
        clear hb
        have HBW := Aside0.mk hbw
        clear hbw
        cases bw with
        | false =>
          obtain ⟨⟨Vc0, Vc1, Vc2, Vc3, Vc4, Vc5, Vc6, Vc7, Vc8, Vc9⟩, ⟨Vf0, Vf1, Vf2, Vf3, Vf4, Vf5, Vf6, Vf7, Vf8, Vf9⟩, Vl⟩ := ten kV
          obtain ⟨⟨Uc0, Uc1, Uc2, Uc3, Uc4, Uc5, Uc6, Uc7, Uc8, Uc9⟩, ⟨Uf0, Uf1, Uf2, Uf3, Uf4, Uf5, Uf6, Uf7, Uf8, Uf9⟩, Ul⟩ := ten kU
          obtain ⟨⟨Pc0, Pc1, Pc2, Pc3, Pc4⟩, ⟨Pf0, Pf1, Pf2, Pf3, Pf4⟩, Pl⟩ := five kP
          go_wp2_with fail
          refine (awake_c _).mono ?_
          rintro e_ w_ ⟨rfl, hb⟩
          clear Vc0 Vc1 Vc2 Vc3 Vc4 Vc5 Vc6 Vc7 Vc8 Vc9 Vf0 Vf1 Vf2 Vf3 Vf4 Vf5 Vf6 Vf7 Vf8 Vf9 Vl Uc0 Uc1 Uc2 Uc3 Uc4 Uc5 Uc6 Uc7 Uc8 Uc9 Uf0 Uf1 Uf2 Uf3 Uf4 Uf5 Uf6 Uf7 Uf8 Uf9 Ul Pc0 Pc1 Pc2 Pc3 Pc4 Pf0 Pf1 Pf2 Pf3 Pf4 Pl
          have b_16 := chain b_15 hb
          replace kV := blk_below kV hb
          replace kU := blk_below kU hb
          replace kP := blk_below kP hb
          replace hL := hL.below hb
          replace hV := hV.below hb
          replace hU := hU.below hb
          replace hP := hP.below hb
          clear b_15
          clear hb
          obtain ⟨⟨Vc0, Vc1, Vc2, Vc3, Vc4, Vc5, Vc6, Vc7, Vc8, Vc9⟩, ⟨Vf0, Vf1, Vf2, Vf3, Vf4, Vf5, Vf6, Vf7, Vf8, Vf9⟩, Vl⟩ := ten kV
          obtain ⟨⟨Uc0, Uc1, Uc2, Uc3, Uc4, Uc5, Uc6, Uc7, Uc8, Uc9⟩, ⟨Uf0, Uf1, Uf2, Uf3, Uf4, Uf5, Uf6, Uf7, Uf8, Uf9⟩, Ul⟩ := ten kU
          obtain ⟨⟨Pc0, Pc1, Pc2, Pc3, Pc4⟩, ⟨Pf0, Pf1, Pf2, Pf3, Pf4⟩, Pl⟩ := five kP
          go_wp2
          go_ret
          exact ⟨rfl, b_16⟩
        | true =>
          obtain ⟨⟨Vc0, Vc1, Vc2, Vc3, Vc4, Vc5, Vc6, Vc7, Vc8, Vc9⟩, ⟨Vf0, Vf1, Vf2, Vf3, Vf4, Vf5, Vf6, Vf7, Vf8, Vf9⟩, Vl⟩ := ten kV
          obtain ⟨⟨Uc0, Uc1, Uc2, Uc3, Uc4, Uc5, Uc6, Uc7, Uc8, Uc9⟩, ⟨Uf0, Uf1, Uf2, Uf3, Uf4, Uf5, Uf6, Uf7, Uf8, Uf9⟩, Ul⟩ := ten kU
          obtain ⟨⟨Pc0, Pc1, Pc2, Pc3, Pc4⟩, ⟨Pf0, Pf1, Pf2, Pf3, Pf4⟩, Pl⟩ := five kP
          go_wp2_with fail
          refine (CX.out _ _ _ _ _ _ _ hU).mono ?_
          rintro e_ w1 ⟨bx, rfl, hbx, hb⟩
          have HBX := Aside0.mk hbx
          clear hbx
          clear Vc0 Vc1 Vc2 Vc3 Vc4 Vc5 Vc6 Vc7 Vc8 Vc9 Vf0 Vf1 Vf2 Vf3 Vf4 Vf5 Vf6 Vf7 Vf8 Vf9 Vl Uc0 Uc1 Uc2 Uc3 Uc4 Uc5 Uc6 Uc7 Uc8 Uc9 Uf0 Uf1 Uf2 Uf3 Uf4 Uf5 Uf6 Uf7 Uf8 Uf9 Ul Pc0 Pc1 Pc2 Pc3 Pc4 Pf0 Pf1 Pf2 Pf3 Pf4 Pl
          have b_17 := chain b_15 hb
          replace kV := blk_below kV hb
          replace kU := blk_below kU hb
          replace kP := blk_below kP hb
          replace hL := hL.below hb
          replace hV := hV.below hb
          replace hU := hU.below hb
          replace hP := hP.below hb
          clear b_15
          clear hb
          cases bx with
          | false =>
            obtain ⟨⟨Vc0, Vc1, Vc2, Vc3, Vc4, Vc5, Vc6, Vc7, Vc8, Vc9⟩, ⟨Vf0, Vf1, Vf2, Vf3, Vf4, Vf5, Vf6, Vf7, Vf8, Vf9⟩, Vl⟩ := ten kV
            obtain ⟨⟨Uc0, Uc1, Uc2, Uc3, Uc4, Uc5, Uc6, Uc7, Uc8, Uc9⟩, ⟨Uf0, Uf1, Uf2, Uf3, Uf4, Uf5, Uf6, Uf7, Uf8, Uf9⟩, Ul⟩ := ten kU
            obtain ⟨⟨Pc0, Pc1, Pc2, Pc3, Pc4⟩, ⟨Pf0, Pf1, Pf2, Pf3, Pf4⟩, Pl⟩ := five kP
            go_wp2_with fail
            refine (awake_c _).mono ?_
            rintro e_ w_ ⟨rfl, hb⟩
            clear Vc0 Vc1 Vc2 Vc3 Vc4 Vc5 Vc6 Vc7 Vc8 Vc9 Vf0 Vf1 Vf2 Vf3 Vf4 Vf5 Vf6 Vf7 Vf8 Vf9 Vl Uc0 Uc1 Uc2 Uc3 Uc4 Uc5 Uc6 Uc7 Uc8 Uc9 Uf0 Uf1 Uf2 Uf3 Uf4 Uf5 Uf6 Uf7 Uf8 Uf9 Ul Pc0 Pc1 Pc2 Pc3 Pc4 Pf0 Pf1 Pf2 Pf3 Pf4 Pl
            have b_18 := chain b_17 hb
            replace kV := blk_below kV hb
            replace kU := blk_below kU hb
            replace kP := blk_below kP hb
            replace hL := hL.below hb
            replace hV := hV.below hb
            replace hU := hU.below hb
            replace hP := hP.below hb
            clear b_17
            clear hb
            obtain ⟨⟨Vc0, Vc1, Vc2, Vc3, Vc4, Vc5, Vc6, Vc7, Vc8, Vc9⟩, ⟨Vf0, Vf1, Vf2, Vf3, Vf4, Vf5, Vf6, Vf7, Vf8, Vf9⟩, Vl⟩ := ten kV
            obtain ⟨⟨Uc0, Uc1, Uc2, Uc3, Uc4, Uc5, Uc6, Uc7, Uc8, Uc9⟩, ⟨Uf0, Uf1, Uf2, Uf3, Uf4, Uf5, Uf6, Uf7, Uf8, Uf9⟩, Ul⟩ := ten kU
            obtain ⟨⟨Pc0, Pc1, Pc2, Pc3, Pc4⟩, ⟨Pf0, Pf1, Pf2, Pf3, Pf4⟩, Pl⟩ := five kP
            go_wp2
            go_ret
            exact ⟨rfl, b_18⟩
          | true =>
            have HNF := Aside0.mk (HBH.out (by first | rfl | trivial))
            have HOV := Aside0.mk (HBW.out (by first | rfl | trivial))
            have HOU := Aside0.mk (HBX.out (by first | rfl | trivial))
            clear HBH HBW HBX CH CW CX CRP
            have HRP := Aside0.mk (HBP.out (by first | rfl | trivial))
            obtain ⟨bo, q, oq, hq, cO, cOg⟩ := ropen_c OL.out a HAL.out hl30 op sn
            have HQ := Aside0.mk hq
            have CO := Aside0.mk @cO
            have COg := Aside0.mk @cOg
            clear hq cO cOg hl30 HBR HBP
            obtain ⟨⟨Vc0, Vc1, Vc2, Vc3, Vc4, Vc5, Vc6, Vc7, Vc8, Vc9⟩, ⟨Vf0, Vf1, Vf2, Vf3, Vf4, Vf5, Vf6, Vf7, Vf8, Vf9⟩, Vl⟩ := ten kV
            obtain ⟨⟨Uc0, Uc1, Uc2, Uc3, Uc4, Uc5, Uc6, Uc7, Uc8, Uc9⟩, ⟨Uf0, Uf1, Uf2, Uf3, Uf4, Uf5, Uf6, Uf7, Uf8, Uf9⟩, Ul⟩ := ten kU
            obtain ⟨⟨Pc0, Pc1, Pc2, Pc3, Pc4⟩, ⟨Pf0, Pf1, Pf2, Pf3, Pf4⟩, Pl⟩ := five kP
            go_wp2_with fail
            refine with_cont (G := ?G1) ?cont1 fun hmain => ?reg1
            case reg1 =>
              refine wp_region_held_drew (S := (fun w' => Below w1.heap.size w1 w' ∧ w'.cell? ⟨w.heap.size + 1 + 1, 0, none⟩ = some (.int .i64 p.f0) ∧ w'.cell? ⟨w.heap.size + 1 + 1, 1, none⟩ = some (.int .i64 p.f1) ∧ w'.cell? ⟨w.heap.size + 1 + 1, 2, none⟩ = some (.string p.f2) ∧ w'.cell? ⟨w.heap.size + 1 + 1, 3, none⟩ = some (.slice A3 p.f3.length c3) ∧ w'.cell? ⟨w.heap.size + 1 + 1, 4, none⟩ = some (.slice A4 p.f4.length c4))) (by kernel_rfl) ?_ (fun hHeld => ?_)
              · exact (and_of (fun hB_ => ⟨cell_up hB_ Pc0, cell_up hB_ Pc1, cell_up hB_ Pc2, cell_up hB_ Pc3, cell_up hB_ Pc4⟩) ((Below.refl _ _).drew))
              have bd_ : Below w1.heap.size w1 w1.drew := (Below.refl _ _).drew
              generalize w1.drew = V1_0 at hHeld bd_ ⊢
              clear bd_
              (first | (refine take_held (i := 0) (d := (some 72)) (v := ?_) rfl rfl (by kernel_rfl) (by kernel_rfl) (by kernel_rfl) (fun _ _ _ h => h) (Or.inl ⟨by rfl, ?_⟩) hHeld ?_; rotate_left 1; focus ((intro w hSw; (try dsimp only at hSw); first | (go_simp; done) | (go_simp; with_reducible rfl)); done); (try simp only [Act.put, List.setIfInBounds_toArray, List.set_cons_zero, List.set_cons_succ])))
              (first | (refine take_held (i := 1) (d := (some 73)) (v := ?_) rfl rfl (by kernel_rfl) (by kernel_rfl) (by kernel_rfl) (fun _ _ _ h => h) (Or.inl ⟨by rfl, ?_⟩) hHeld ?_; rotate_left 1; focus ((intro w hSw; (try dsimp only at hSw); first | (go_simp; done) | (go_simp; with_reducible rfl)); done); (try simp only [Act.put, List.setIfInBounds_toArray, List.set_cons_zero, List.set_cons_succ])))
              (first | (refine take_held (i := 2) (d := (some 74)) (v := ?_) rfl rfl (by kernel_rfl) (by kernel_rfl) (by kernel_rfl) (fun _ _ _ h => h) (Or.inl ⟨by rfl, ?_⟩) hHeld ?_; rotate_left 1; focus ((intro w hSw; (try dsimp only at hSw); first | (go_simp; done) | (go_simp; with_reducible rfl)); done); (try simp only [Act.put, List.setIfInBounds_toArray, List.set_cons_zero, List.set_cons_succ])))
              (first | (refine take_held (i := 3) (d := (some 75)) (v := ?_) rfl rfl (by kernel_rfl) (by kernel_rfl) (by kernel_rfl) (fun _ _ _ h => h) (Or.inl ⟨by rfl, ?_⟩) hHeld ?_; rotate_left 1; focus ((intro w hSw; (try dsimp only at hSw); first | (go_simp; done) | (go_simp; with_reducible rfl)); done); (try simp only [Act.put, List.setIfInBounds_toArray, List.set_cons_zero, List.set_cons_succ])))
              refine wpAnyH_ready (rs := [4, 9]) (by kernel_rfl) (by simp) ?_
              refine AllReadyH.cons (o := _) rfl (fun K hK => ?_) (AllReadyH.cons (o := _) rfl (fun K hK => ?_) AllReadyH.nil)
              focus
                go_simp
                go_at_call 42
                refine (lreps_c OL.out a HAL.out (hL.below (And.left hHeld))).mono ?_
                rintro e_ V1_1 ⟨LT, lt, rfl, hLT, hb⟩
                (try go_wp2_with fail)
                refine hK.out _ _ (and_of (fun hB_ => ⟨cell_up hB_ Pc0, cell_up hB_ Pc1, cell_up hB_ Pc2, cell_up hB_ Pc3, cell_up hB_ Pc4⟩) (chain (And.left hHeld) hb)) ?_
                clear hHeld hK K
                intro hHeld
                (try simp only [Act.put, List.setIfInBounds_toArray, List.set_cons_zero, List.set_cons_succ])
                clear hb
                refine wpAnyH_ready (rs := [5, 9]) (by kernel_rfl) (by simp) ?_
                refine AllReadyH.cons (o := _) rfl (fun K hK => ?_) (AllReadyH.cons (o := _) rfl (fun K hK => ?_) AllReadyH.nil)
                focus
                  go_simp
                  go_at_call 28
                  refine (CO.out hLT (hP.below (And.left hHeld))).mono ?_
                  rintro e_ V1_2 ⟨Q3, q3, Q4, q4, rfl, hQ, hb⟩
                  (try go_wp2_with fail)
                  refine hK.out _ _ (and_of (fun hB_ => ⟨cell_up hB_ Pc0, cell_up hB_ Pc1, cell_up hB_ Pc2, cell_up hB_ Pc3, cell_up hB_ Pc4⟩) (chain (And.left hHeld) hb)) ?_
                  clear hHeld hK K
                  intro hHeld
                  (try simp only [Act.put, List.setIfInBounds_toArray, List.set_cons_zero, List.set_cons_succ])
                  replace hLT := hLT.below hb
                  clear hb
                  (first | (refine take_held (i := 6) (d := (some 71)) (v := ?_) rfl rfl (by kernel_rfl) (by kernel_rfl) (by kernel_rfl) (fun _ _ _ h => h) (Or.inl ⟨by rfl, ?_⟩) hHeld ?_; rotate_left 1; focus ((intro w hSw; (try dsimp only at hSw); first | (go_simp; done) | (go_simp; with_reducible rfl)); done); (try simp only [Act.put, List.setIfInBounds_toArray, List.set_cons_zero, List.set_cons_succ])))
                  (first | (refine take_held (i := 7) (d := (some 78)) (v := ?_) rfl rfl (by kernel_rfl) (by kernel_rfl) (by kernel_rfl) (fun _ _ _ h => h) (Or.inl ⟨by rfl, ?_⟩) hHeld ?_; rotate_left 1; focus ((intro w hSw; (try dsimp only at hSw); first | (go_simp; done) | (go_simp; with_reducible rfl)); done); (try simp only [Act.put, List.setIfInBounds_toArray, List.set_cons_zero, List.set_cons_succ])))
                  (first | (refine take_held (i := 8) (d := (some 79)) (v := ?_) rfl rfl (by kernel_rfl) (by kernel_rfl) (by kernel_rfl) (fun _ _ _ h => h) (Or.inl ⟨by rfl, ?_⟩) hHeld ?_; rotate_left 1; focus ((intro w hSw; (try dsimp only at hSw); first | (go_simp; done) | (go_simp; with_reducible rfl)); done); (try simp only [Act.put, List.setIfInBounds_toArray, List.set_cons_zero, List.set_cons_succ])))
                  refine wpAnyH_ready (rs := [9]) (by kernel_rfl) (by simp) ?_
                  refine AllReadyH.cons (o := _) rfl (fun K hK => ?_) AllReadyH.nil
                  go_simp
                  obtain ⟨gR, hgR⟩ : ∃ g_, g_ = V1_2.heap.size := ⟨_, rfl⟩
                  have kR := blk_new V1_2 (.cells #[.int .i64 0, .int .i64 0, .string ⟨#[]⟩, .slice none 0 0, .slice none 0 0] 25)
                  have hb := below_alloc1 V1_2 (.cells #[.int .i64 0, .int .i64 0, .string ⟨#[]⟩, .slice none 0 0, .slice none 0 0] 25)
                  have lgR : w1.heap.size ≤ gR := by have := (And.left hHeld).size; omega
                  (try go_wp2_with fail)
                  refine hK.out _ _ (and_of (fun hB_ => ⟨cell_up hB_ Pc0, cell_up hB_ Pc1, cell_up hB_ Pc2, cell_up hB_ Pc3, cell_up hB_ Pc4⟩) (chain (And.left hHeld) hb)) ?_
                  clear hHeld hK K
                  intro hHeld
                  (try simp only [Act.put, List.setIfInBounds_toArray, List.set_cons_zero, List.set_cons_succ])
                  replace hLT := hLT.ag
                  replace hQ := hQ.ag
                  rw [← hgR] at kR hLT hQ ⊢
                  clear hgR
                  replace hLT := hLT.below hb
                  replace hQ := hQ.below hb
                  generalize V1_2.alloc (.cells #[.int .i64 0, .int .i64 0, .string ⟨#[]⟩, .slice none 0 0, .slice none 0 0] 25) = V1_3 at *
                  clear hb
                  have fin_ := And.intro hHeld (And.intro hLT (And.intro hQ (And.intro kR (And.intro lgR (True.intro)))))
                  revert fin_
                  generalize V1_3 = v_0, LT = v_1, Q3 = v_2, Q4 = v_3, gR = v_4, lt = v_5, q3 = v_6, q4 = v_7
                  revert v_0 v_1 v_2 v_3 v_4 v_5 v_6 v_7
                  exact hmain.out
                focus
                  go_simp
                  obtain ⟨gR, hgR⟩ : ∃ g_, g_ = V1_1.heap.size := ⟨_, rfl⟩
                  have kR := blk_new V1_1 (.cells #[.int .i64 0, .int .i64 0, .string ⟨#[]⟩, .slice none 0 0, .slice none 0 0] 25)
                  have hb := below_alloc1 V1_1 (.cells #[.int .i64 0, .int .i64 0, .string ⟨#[]⟩, .slice none 0 0, .slice none 0 0] 25)
                  have lgR : w1.heap.size ≤ gR := by have := (And.left hHeld).size; omega
                  (try go_wp2_with fail)
                  refine hK.out _ _ (and_of (fun hB_ => ⟨cell_up hB_ Pc0, cell_up hB_ Pc1, cell_up hB_ Pc2, cell_up hB_ Pc3, cell_up hB_ Pc4⟩) (chain (And.left hHeld) hb)) ?_
                  clear hHeld hK K
                  intro hHeld
                  (try simp only [Act.put, List.setIfInBounds_toArray, List.set_cons_zero, List.set_cons_succ])
                  replace hLT := hLT.ag
                  rw [← hgR] at kR hLT ⊢
                  clear hgR
                  replace hLT := hLT.below hb
                  generalize V1_1.alloc (.cells #[.int .i64 0, .int .i64 0, .string ⟨#[]⟩, .slice none 0 0, .slice none 0 0] 25) = V1_4 at *
                  clear hb
                  refine wpAnyH_ready (rs := [5]) (by kernel_rfl) (by simp) ?_
                  refine AllReadyH.cons (o := _) rfl (fun K hK => ?_) AllReadyH.nil
                  go_simp
                  go_at_call 28
                  refine (COg.out (blk_lt kR) hLT (hP.gg (And.left hHeld) lgR)).mono ?_
                  rintro e_ V1_5 ⟨Q3, q3, Q4, q4, rfl, hQ, hb⟩
                  (try go_wp2_with fail)
                  refine hK.out _ _ (and_of (fun hB_ => ⟨cell_up hB_ Pc0, cell_up hB_ Pc1, cell_up hB_ Pc2, cell_up hB_ Pc3, cell_up hB_ Pc4⟩) (chain (And.left hHeld) hb)) ?_
                  clear hHeld hK K
                  intro hHeld
                  (try simp only [Act.put, List.setIfInBounds_toArray, List.set_cons_zero, List.set_cons_succ])
                  replace hLT := hLT.below hb
                  replace kR := blk_below kR hb
                  clear hb
                  (first | (refine take_held (i := 6) (d := (some 71)) (v := ?_) rfl rfl (by kernel_rfl) (by kernel_rfl) (by kernel_rfl) (fun _ _ _ h => h) (Or.inl ⟨by rfl, ?_⟩) hHeld ?_; rotate_left 1; focus ((intro w hSw; (try dsimp only at hSw); first | (go_simp; done) | (go_simp; with_reducible rfl)); done); (try simp only [Act.put, List.setIfInBounds_toArray, List.set_cons_zero, List.set_cons_succ])))
                  (first | (refine take_held (i := 7) (d := (some 78)) (v := ?_) rfl rfl (by kernel_rfl) (by kernel_rfl) (by kernel_rfl) (fun _ _ _ h => h) (Or.inl ⟨by rfl, ?_⟩) hHeld ?_; rotate_left 1; focus ((intro w hSw; (try dsimp only at hSw); first | (go_simp; done) | (go_simp; with_reducible rfl)); done); (try simp only [Act.put, List.setIfInBounds_toArray, List.set_cons_zero, List.set_cons_succ])))
                  (first | (refine take_held (i := 8) (d := (some 79)) (v := ?_) rfl rfl (by kernel_rfl) (by kernel_rfl) (by kernel_rfl) (fun _ _ _ h => h) (Or.inl ⟨by rfl, ?_⟩) hHeld ?_; rotate_left 1; focus ((intro w hSw; (try dsimp only at hSw); first | (go_simp; done) | (go_simp; with_reducible rfl)); done); (try simp only [Act.put, List.setIfInBounds_toArray, List.set_cons_zero, List.set_cons_succ])))
                  have fin_ := And.intro hHeld (And.intro hLT (And.intro hQ (And.intro kR (And.intro lgR (True.intro)))))
                  revert fin_
                  generalize V1_5 = v_0, LT = v_1, Q3 = v_2, Q4 = v_3, gR = v_4, lt = v_5, q3 = v_6, q4 = v_7
                  revert v_0 v_1 v_2 v_3 v_4 v_5 v_6 v_7
                  exact hmain.out
              focus
                go_simp
                obtain ⟨gR, hgR⟩ : ∃ g_, g_ = V1_0.heap.size := ⟨_, rfl⟩
                have kR := blk_new V1_0 (.cells #[.int .i64 0, .int .i64 0, .string ⟨#[]⟩, .slice none 0 0, .slice none 0 0] 25)
                have hb := below_alloc1 V1_0 (.cells #[.int .i64 0, .int .i64 0, .string ⟨#[]⟩, .slice none 0 0, .slice none 0 0] 25)
                have lgR : w1.heap.size ≤ gR := by have := (And.left hHeld).size; omega
                (try go_wp2_with fail)
                refine hK.out _ _ (and_of (fun hB_ => ⟨cell_up hB_ Pc0, cell_up hB_ Pc1, cell_up hB_ Pc2, cell_up hB_ Pc3, cell_up hB_ Pc4⟩) (chain (And.left hHeld) hb)) ?_
                clear hHeld hK K
                intro hHeld
                (try simp only [Act.put, List.setIfInBounds_toArray, List.set_cons_zero, List.set_cons_succ])
                rw [← hgR] at kR ⊢
                clear hgR
                generalize V1_0.alloc (.cells #[.int .i64 0, .int .i64 0, .string ⟨#[]⟩, .slice none 0 0, .slice none 0 0] 25) = V1_6 at *
                clear hb
                refine wpAnyH_ready (rs := [4]) (by kernel_rfl) (by simp) ?_
                refine AllReadyH.cons (o := _) rfl (fun K hK => ?_) AllReadyH.nil
                go_simp
                go_at_call 42
                refine (lreps_g OL.out a HAL.out (blk_lt kR) (hL.gg (And.left hHeld) lgR)).mono ?_
                rintro e_ V1_7 ⟨LT, lt, rfl, hLT, hb⟩
                (try go_wp2_with fail)
                refine hK.out _ _ (and_of (fun hB_ => ⟨cell_up hB_ Pc0, cell_up hB_ Pc1, cell_up hB_ Pc2, cell_up hB_ Pc3, cell_up hB_ Pc4⟩) (chain (And.left hHeld) hb)) ?_
                clear hHeld hK K
                intro hHeld
                (try simp only [Act.put, List.setIfInBounds_toArray, List.set_cons_zero, List.set_cons_succ])
                replace kR := blk_below kR hb
                clear hb
                refine wpAnyH_ready (rs := [5]) (by kernel_rfl) (by simp) ?_
                refine AllReadyH.cons (o := _) rfl (fun K hK => ?_) AllReadyH.nil
                go_simp
                go_at_call 28
                refine (COg.out (blk_lt kR) hLT (hP.gg (And.left hHeld) lgR)).mono ?_
                rintro e_ V1_8 ⟨Q3, q3, Q4, q4, rfl, hQ, hb⟩
                (try go_wp2_with fail)
                refine hK.out _ _ (and_of (fun hB_ => ⟨cell_up hB_ Pc0, cell_up hB_ Pc1, cell_up hB_ Pc2, cell_up hB_ Pc3, cell_up hB_ Pc4⟩) (chain (And.left hHeld) hb)) ?_
                clear hHeld hK K
                intro hHeld
                (try simp only [Act.put, List.setIfInBounds_toArray, List.set_cons_zero, List.set_cons_succ])
                replace kR := blk_below kR hb
                replace hLT := hLT.below hb
                clear hb
                (first | (refine take_held (i := 6) (d := (some 71)) (v := ?_) rfl rfl (by kernel_rfl) (by kernel_rfl) (by kernel_rfl) (fun _ _ _ h => h) (Or.inl ⟨by rfl, ?_⟩) hHeld ?_; rotate_left 1; focus ((intro w hSw; (try dsimp only at hSw); first | (go_simp; done) | (go_simp; with_reducible rfl)); done); (try simp only [Act.put, List.setIfInBounds_toArray, List.set_cons_zero, List.set_cons_succ])))
                (first | (refine take_held (i := 7) (d := (some 78)) (v := ?_) rfl rfl (by kernel_rfl) (by kernel_rfl) (by kernel_rfl) (fun _ _ _ h => h) (Or.inl ⟨by rfl, ?_⟩) hHeld ?_; rotate_left 1; focus ((intro w hSw; (try dsimp only at hSw); first | (go_simp; done) | (go_simp; with_reducible rfl)); done); (try simp only [Act.put, List.setIfInBounds_toArray, List.set_cons_zero, List.set_cons_succ])))
                (first | (refine take_held (i := 8) (d := (some 79)) (v := ?_) rfl rfl (by kernel_rfl) (by kernel_rfl) (by kernel_rfl) (fun _ _ _ h => h) (Or.inl ⟨by rfl, ?_⟩) hHeld ?_; rotate_left 1; focus ((intro w hSw; (try dsimp only at hSw); first | (go_simp; done) | (go_simp; with_reducible rfl)); done); (try simp only [Act.put, List.setIfInBounds_toArray, List.set_cons_zero, List.set_cons_succ])))
                have fin_ := And.intro hHeld (And.intro hLT (And.intro hQ (And.intro kR (And.intro lgR (True.intro)))))
                revert fin_
                generalize V1_8 = v_0, LT = v_1, Q3 = v_2, Q4 = v_3, gR = v_4, lt = v_5, q3 = v_6, q4 = v_7
                revert v_0 v_1 v_2 v_3 v_4 v_5 v_6 v_7
                exact hmain.out
            case cont1 =>
              intro V1 LT Q3 Q4 gR lt q3 q4 fin_
              obtain ⟨hHeld, hLT, hQ, kR, lgR, _⟩ := fin_
              have bx_ := five kR
              obtain ⟨⟨x0_, x1_, x2_, x3_, x4_⟩, ⟨y0_, y1_, y2_, y3_, y4_⟩, z_⟩ := bx_
              refine wpAnyH_ready (rs := [10]) (by kernel_rfl) (by simp) ?_
              refine AllReadyH.cons (o := _) rfl (fun K hK => ?_) AllReadyH.nil
              go_simp
              (try go_wp2_with fail)
              refine hK.out _ _ (and_of (fun hB_ => ⟨cell_up hB_ Pc0, cell_up hB_ Pc1, cell_up hB_ Pc2, cell_up hB_ Pc3, cell_up hB_ Pc4⟩) (below_stored (And.left hHeld) lgR _ _ _ _ _)) ?_
              clear hHeld hK K x0_ x1_ x2_ x3_ x4_ y0_ y1_ y2_ y3_ y4_ z_
              intro hHeld
              (try simp only [Act.put, List.setIfInBounds_toArray, List.set_cons_zero, List.set_cons_succ])
              replace kR := stored kR (.int .i64 q.f0) (.int .i64 q.f1) (.string q.f2) (.slice Q3 q.f3.length q3) (.slice Q4 q.f4.length q4)
              replace hLT := hLT.stored (.int .i64 q.f0) (.int .i64 q.f1) (.string q.f2) (.slice Q3 q.f3.length q3) (.slice Q4 q.f4.length q4)
              replace hQ := hQ.stored (.int .i64 q.f0) (.int .i64 q.f1) (.string q.f2) (.slice Q3 q.f3.length q3) (.slice Q4 q.f4.length q4)
              generalize World.setCell (World.setCell (World.setCell (World.setCell (World.setCell (V1) _ _) _ _) _ _) _ _) _ _ = V1_9 at hHeld kR hLT hQ ⊢
              (first | (refine take_held (i := 11) (d := (some 13)) (v := ?_) rfl rfl (by kernel_rfl) (by kernel_rfl) (by kernel_rfl) (fun _ _ _ h => h) (Or.inl ⟨by rfl, ?_⟩) hHeld ?_; rotate_left 1; focus ((intro w hSw; (try dsimp only at hSw); first | (go_simp; done) | (go_simp; with_reducible rfl)); done); (try simp only [Act.put, List.setIfInBounds_toArray, List.set_cons_zero, List.set_cons_succ])))
              refine wpAnyH_done (by kernel_rfl) ?_ _
              have bW_ := And.left hHeld
              clear hHeld
              replace hQ := RTg.rt hQ
              clear hLT
              clear Vc0 Vc1 Vc2 Vc3 Vc4 Vc5 Vc6 Vc7 Vc8 Vc9 Vf0 Vf1 Vf2 Vf3 Vf4 Vf5 Vf6 Vf7 Vf8 Vf9 Vl Uc0 Uc1 Uc2 Uc3 Uc4 Uc5 Uc6 Uc7 Uc8 Uc9 Uf0 Uf1 Uf2 Uf3 Uf4 Uf5 Uf6 Uf7 Uf8 Uf9 Ul Pc0 Pc1 Pc2 Pc3 Pc4 Pf0 Pf1 Pf2 Pf3 Pf4 Pl
              have b_19 := chain b_17 bW_
              replace kV := blk_below kV bW_
              replace kU := blk_below kU bW_
              replace kP := blk_below kP bW_
              replace hL := hL.below bW_
              replace hV := hV.below bW_
              replace hU := hU.below bW_
              replace hP := hP.below bW_
              clear b_17
              clear bW_
              cases bo with
              | false =>
                obtain ⟨⟨Vc0, Vc1, Vc2, Vc3, Vc4, Vc5, Vc6, Vc7, Vc8, Vc9⟩, ⟨Vf0, Vf1, Vf2, Vf3, Vf4, Vf5, Vf6, Vf7, Vf8, Vf9⟩, Vl⟩ := ten kV
                obtain ⟨⟨Uc0, Uc1, Uc2, Uc3, Uc4, Uc5, Uc6, Uc7, Uc8, Uc9⟩, ⟨Uf0, Uf1, Uf2, Uf3, Uf4, Uf5, Uf6, Uf7, Uf8, Uf9⟩, Ul⟩ := ten kU
                obtain ⟨⟨Pc0, Pc1, Pc2, Pc3, Pc4⟩, ⟨Pf0, Pf1, Pf2, Pf3, Pf4⟩, Pl⟩ := five kP
                obtain ⟨⟨Rc0, Rc1, Rc2, Rc3, Rc4⟩, ⟨Rf0, Rf1, Rf2, Rf3, Rf4⟩, Rl⟩ := five kR
                go_wp2_with fail
                refine (awake_c _).mono ?_
                rintro e_ w_ ⟨rfl, hb⟩
                clear Vc0 Vc1 Vc2 Vc3 Vc4 Vc5 Vc6 Vc7 Vc8 Vc9 Vf0 Vf1 Vf2 Vf3 Vf4 Vf5 Vf6 Vf7 Vf8 Vf9 Vl Uc0 Uc1 Uc2 Uc3 Uc4 Uc5 Uc6 Uc7 Uc8 Uc9 Uf0 Uf1 Uf2 Uf3 Uf4 Uf5 Uf6 Uf7 Uf8 Uf9 Ul Pc0 Pc1 Pc2 Pc3 Pc4 Pf0 Pf1 Pf2 Pf3 Pf4 Pl Rc0 Rc1 Rc2 Rc3 Rc4 Rf0 Rf1 Rf2 Rf3 Rf4 Rl
                have b_20 := chain b_19 hb
                replace kV := blk_below kV hb
                replace kU := blk_below kU hb
                replace kP := blk_below kP hb
                replace kR := blk_below kR hb
                replace hL := hL.below hb
                replace hV := hV.below hb
                replace hU := hU.below hb
                replace hP := hP.below hb
                replace hQ := hQ.below hb
                clear b_19
                clear hb
                obtain ⟨⟨Vc0, Vc1, Vc2, Vc3, Vc4, Vc5, Vc6, Vc7, Vc8, Vc9⟩, ⟨Vf0, Vf1, Vf2, Vf3, Vf4, Vf5, Vf6, Vf7, Vf8, Vf9⟩, Vl⟩ := ten kV
                obtain ⟨⟨Uc0, Uc1, Uc2, Uc3, Uc4, Uc5, Uc6, Uc7, Uc8, Uc9⟩, ⟨Uf0, Uf1, Uf2, Uf3, Uf4, Uf5, Uf6, Uf7, Uf8, Uf9⟩, Ul⟩ := ten kU
                obtain ⟨⟨Pc0, Pc1, Pc2, Pc3, Pc4⟩, ⟨Pf0, Pf1, Pf2, Pf3, Pf4⟩, Pl⟩ := five kP
                obtain ⟨⟨Rc0, Rc1, Rc2, Rc3, Rc4⟩, ⟨Rf0, Rf1, Rf2, Rf3, Rf4⟩, Rl⟩ := five kR
                go_wp2
                go_ret
                exact ⟨rfl, b_20⟩
              | true =>
                have HQ1 := Aside0.mk (HQ.out rfl)
                clear HQ CO COg
                obtain ⟨b1, h1, cI1⟩ := is_says OL.out ov oq
                obtain ⟨b2, h2, cI2⟩ := is_says OL.out ou op
                have H1 := Aside0.mk h1
                have H2 := Aside0.mk h2
                have CI1 := Aside0.mk @cI1
                have CI2 := Aside0.mk @cI2
                clear h1 h2 cI1 cI2
                obtain ⟨⟨Vc0, Vc1, Vc2, Vc3, Vc4, Vc5, Vc6, Vc7, Vc8, Vc9⟩, ⟨Vf0, Vf1, Vf2, Vf3, Vf4, Vf5, Vf6, Vf7, Vf8, Vf9⟩, Vl⟩ := ten kV
                obtain ⟨⟨Uc0, Uc1, Uc2, Uc3, Uc4, Uc5, Uc6, Uc7, Uc8, Uc9⟩, ⟨Uf0, Uf1, Uf2, Uf3, Uf4, Uf5, Uf6, Uf7, Uf8, Uf9⟩, Ul⟩ := ten kU
                obtain ⟨⟨Pc0, Pc1, Pc2, Pc3, Pc4⟩, ⟨Pf0, Pf1, Pf2, Pf3, Pf4⟩, Pl⟩ := five kP
                obtain ⟨⟨Rc0, Rc1, Rc2, Rc3, Rc4⟩, ⟨Rf0, Rf1, Rf2, Rf3, Rf4⟩, Rl⟩ := five kR
                go_wp2_with fail
                refine (CI1.out hL hV hQ).mono ?_
                rintro e_ w_ ⟨rfl, hb⟩
                clear Vc0 Vc1 Vc2 Vc3 Vc4 Vc5 Vc6 Vc7 Vc8 Vc9 Vf0 Vf1 Vf2 Vf3 Vf4 Vf5 Vf6 Vf7 Vf8 Vf9 Vl Uc0 Uc1 Uc2 Uc3 Uc4 Uc5 Uc6 Uc7 Uc8 Uc9 Uf0 Uf1 Uf2 Uf3 Uf4 Uf5 Uf6 Uf7 Uf8 Uf9 Ul Pc0 Pc1 Pc2 Pc3 Pc4 Pf0 Pf1 Pf2 Pf3 Pf4 Pl Rc0 Rc1 Rc2 Rc3 Rc4 Rf0 Rf1 Rf2 Rf3 Rf4 Rl
                have b_21 := chain b_19 hb
                replace kV := blk_below kV hb
                replace kU := blk_below kU hb
                replace kP := blk_below kP hb
                replace kR := blk_below kR hb
                replace hL := hL.below hb
                replace hV := hV.below hb
                replace hU := hU.below hb
                replace hP := hP.below hb
                replace hQ := hQ.below hb
                clear b_19
                clear hb
                cases b1 with
                | false =>
                  obtain ⟨⟨Vc0, Vc1, Vc2, Vc3, Vc4, Vc5, Vc6, Vc7, Vc8, Vc9⟩, ⟨Vf0, Vf1, Vf2, Vf3, Vf4, Vf5, Vf6, Vf7, Vf8, Vf9⟩, Vl⟩ := ten kV
                  obtain ⟨⟨Uc0, Uc1, Uc2, Uc3, Uc4, Uc5, Uc6, Uc7, Uc8, Uc9⟩, ⟨Uf0, Uf1, Uf2, Uf3, Uf4, Uf5, Uf6, Uf7, Uf8, Uf9⟩, Ul⟩ := ten kU
                  obtain ⟨⟨Pc0, Pc1, Pc2, Pc3, Pc4⟩, ⟨Pf0, Pf1, Pf2, Pf3, Pf4⟩, Pl⟩ := five kP
                  obtain ⟨⟨Rc0, Rc1, Rc2, Rc3, Rc4⟩, ⟨Rf0, Rf1, Rf2, Rf3, Rf4⟩, Rl⟩ := five kR
                  go_wp2_with fail
                  refine (CI2.out hL hU hP).mono ?_
                  rintro e_ w_ ⟨rfl, hb⟩
                  clear Vc0 Vc1 Vc2 Vc3 Vc4 Vc5 Vc6 Vc7 Vc8 Vc9 Vf0 Vf1 Vf2 Vf3 Vf4 Vf5 Vf6 Vf7 Vf8 Vf9 Vl Uc0 Uc1 Uc2 Uc3 Uc4 Uc5 Uc6 Uc7 Uc8 Uc9 Uf0 Uf1 Uf2 Uf3 Uf4 Uf5 Uf6 Uf7 Uf8 Uf9 Ul Pc0 Pc1 Pc2 Pc3 Pc4 Pf0 Pf1 Pf2 Pf3 Pf4 Pl Rc0 Rc1 Rc2 Rc3 Rc4 Rf0 Rf1 Rf2 Rf3 Rf4 Rl
                  have b_22 := chain b_21 hb
                  replace kV := blk_below kV hb
                  replace kU := blk_below kU hb
                  replace kP := blk_below kP hb
                  replace kR := blk_below kR hb
                  replace hL := hL.below hb
                  replace hV := hV.below hb
                  replace hU := hU.below hb
                  replace hP := hP.below hb
                  replace hQ := hQ.below hb
                  clear b_21
                  clear hb
                  cases b2 with
                  | false =>
                    obtain ⟨⟨Vc0, Vc1, Vc2, Vc3, Vc4, Vc5, Vc6, Vc7, Vc8, Vc9⟩, ⟨Vf0, Vf1, Vf2, Vf3, Vf4, Vf5, Vf6, Vf7, Vf8, Vf9⟩, Vl⟩ := ten kV
                    obtain ⟨⟨Uc0, Uc1, Uc2, Uc3, Uc4, Uc5, Uc6, Uc7, Uc8, Uc9⟩, ⟨Uf0, Uf1, Uf2, Uf3, Uf4, Uf5, Uf6, Uf7, Uf8, Uf9⟩, Ul⟩ := ten kU
                    obtain ⟨⟨Pc0, Pc1, Pc2, Pc3, Pc4⟩, ⟨Pf0, Pf1, Pf2, Pf3, Pf4⟩, Pl⟩ := five kP
                    obtain ⟨⟨Rc0, Rc1, Rc2, Rc3, Rc4⟩, ⟨Rf0, Rf1, Rf2, Rf3, Rf4⟩, Rl⟩ := five kR
                    go_wp2_with fail
                    refine (awake_c _).mono ?_
                    rintro e_ w_ ⟨rfl, hb⟩
                    clear Vc0 Vc1 Vc2 Vc3 Vc4 Vc5 Vc6 Vc7 Vc8 Vc9 Vf0 Vf1 Vf2 Vf3 Vf4 Vf5 Vf6 Vf7 Vf8 Vf9 Vl Uc0 Uc1 Uc2 Uc3 Uc4 Uc5 Uc6 Uc7 Uc8 Uc9 Uf0 Uf1 Uf2 Uf3 Uf4 Uf5 Uf6 Uf7 Uf8 Uf9 Ul Pc0 Pc1 Pc2 Pc3 Pc4 Pf0 Pf1 Pf2 Pf3 Pf4 Pl Rc0 Rc1 Rc2 Rc3 Rc4 Rf0 Rf1 Rf2 Rf3 Rf4 Rl
                    have b_23 := chain b_22 hb
                    replace kV := blk_below kV hb
                    replace kU := blk_below kU hb
                    replace kP := blk_below kP hb
                    replace kR := blk_below kR hb
                    replace hL := hL.below hb
                    replace hV := hV.below hb
                    replace hU := hU.below hb
                    replace hP := hP.below hb
                    replace hQ := hQ.below hb
                    clear b_22
                    clear hb
                    obtain ⟨⟨Vc0, Vc1, Vc2, Vc3, Vc4, Vc5, Vc6, Vc7, Vc8, Vc9⟩, ⟨Vf0, Vf1, Vf2, Vf3, Vf4, Vf5, Vf6, Vf7, Vf8, Vf9⟩, Vl⟩ := ten kV
                    obtain ⟨⟨Uc0, Uc1, Uc2, Uc3, Uc4, Uc5, Uc6, Uc7, Uc8, Uc9⟩, ⟨Uf0, Uf1, Uf2, Uf3, Uf4, Uf5, Uf6, Uf7, Uf8, Uf9⟩, Ul⟩ := ten kU
                    obtain ⟨⟨Pc0, Pc1, Pc2, Pc3, Pc4⟩, ⟨Pf0, Pf1, Pf2, Pf3, Pf4⟩, Pl⟩ := five kP
                    obtain ⟨⟨Rc0, Rc1, Rc2, Rc3, Rc4⟩, ⟨Rf0, Rf1, Rf2, Rf3, Rf4⟩, Rl⟩ := five kR
                    go_wp2
                    go_ret
                    exact ⟨rfl, b_23⟩
                  | true =>
                    have hi1 : IsT l u p := H2.out.1 rfl
                    obtain ⟨x, hd, hd2⟩ := do_forth (a := a) HRP.out HNF.out HOU.out hi1
                    have or1 := okr_out HRP.out ou hi1
                    have ox := do_okv op or1 ou hd
                    have HD := Aside0.mk (show doV (a : Int) (l.length : Int) false u p = some x from hd)
                    have HD2 := Aside0.mk (show doV (a : Int) (l.length : Int) true x p = some u from hd2)
                    have OR1 := Aside0.mk or1
                    clear hd hd2 or1 hi1
                    obtain ⟨⟨Vc0, Vc1, Vc2, Vc3, Vc4, Vc5, Vc6, Vc7, Vc8, Vc9⟩, ⟨Vf0, Vf1, Vf2, Vf3, Vf4, Vf5, Vf6, Vf7, Vf8, Vf9⟩, Vl⟩ := ten kV
                    obtain ⟨⟨Uc0, Uc1, Uc2, Uc3, Uc4, Uc5, Uc6, Uc7, Uc8, Uc9⟩, ⟨Uf0, Uf1, Uf2, Uf3, Uf4, Uf5, Uf6, Uf7, Uf8, Uf9⟩, Ul⟩ := ten kU
                    obtain ⟨⟨Pc0, Pc1, Pc2, Pc3, Pc4⟩, ⟨Pf0, Pf1, Pf2, Pf3, Pf4⟩, Pl⟩ := five kP
                    obtain ⟨⟨Rc0, Rc1, Rc2, Rc3, Rc4⟩, ⟨Rf0, Rf1, Rf2, Rf3, Rf4⟩, Rl⟩ := five kR
                    go_wp2_with fail
                    refine (do_yes HD.out ou op OR1.out hU hP).mono ?_
                    rintro e_ w5 ⟨X6, x6, X7, x7, X8, x8, rfl, hX, hb⟩
                    clear Vc0 Vc1 Vc2 Vc3 Vc4 Vc5 Vc6 Vc7 Vc8 Vc9 Vf0 Vf1 Vf2 Vf3 Vf4 Vf5 Vf6 Vf7 Vf8 Vf9 Vl Uc0 Uc1 Uc2 Uc3 Uc4 Uc5 Uc6 Uc7 Uc8 Uc9 Uf0 Uf1 Uf2 Uf3 Uf4 Uf5 Uf6 Uf7 Uf8 Uf9 Ul Pc0 Pc1 Pc2 Pc3 Pc4 Pf0 Pf1 Pf2 Pf3 Pf4 Pl Rc0 Rc1 Rc2 Rc3 Rc4 Rf0 Rf1 Rf2 Rf3 Rf4 Rl
                    have b_24 := chain b_22 hb
                    replace kV := blk_below kV hb
                    replace kU := blk_below kU hb
                    replace kP := blk_below kP hb
                    replace kR := blk_below kR hb
                    replace hL := hL.below hb
                    replace hV := hV.below hb
                    replace hU := hU.below hb
                    replace hP := hP.below hb
                    replace hQ := hQ.below hb
                    clear b_22
                    clear hb
                    have kX := blk_new w5 (.cells (vcells x X6 x6 X7 x7 X8 x8) 55)
                    have hb := below_alloc1 w5 (.cells (vcells x X6 x6 X7 x7 X8 x8) 55)
                    have b_25 := chain b_24 hb
                    replace kV := blk_below kV hb
                    replace kU := blk_below kU hb
                    replace kP := blk_below kP hb
                    replace kR := blk_below kR hb
                    replace hL := hL.below hb
                    replace hV := hV.below hb
                    replace hU := hU.below hb
                    replace hP := hP.below hb
                    replace hQ := hQ.below hb
                    replace hX := hX.below hb
                    clear b_24
                    clear hb
                    obtain ⟨⟨Vc0, Vc1, Vc2, Vc3, Vc4, Vc5, Vc6, Vc7, Vc8, Vc9⟩, ⟨Vf0, Vf1, Vf2, Vf3, Vf4, Vf5, Vf6, Vf7, Vf8, Vf9⟩, Vl⟩ := ten kV
                    obtain ⟨⟨Uc0, Uc1, Uc2, Uc3, Uc4, Uc5, Uc6, Uc7, Uc8, Uc9⟩, ⟨Uf0, Uf1, Uf2, Uf3, Uf4, Uf5, Uf6, Uf7, Uf8, Uf9⟩, Ul⟩ := ten kU
                    obtain ⟨⟨Pc0, Pc1, Pc2, Pc3, Pc4⟩, ⟨Pf0, Pf1, Pf2, Pf3, Pf4⟩, Pl⟩ := five kP
                    obtain ⟨⟨Rc0, Rc1, Rc2, Rc3, Rc4⟩, ⟨Rf0, Rf1, Rf2, Rf3, Rf4⟩, Rl⟩ := five kR
                    obtain ⟨⟨Xc0, Xc1, Xc2, Xc3, Xc4, Xc5, Xc6, Xc7, Xc8, Xc9⟩, ⟨Xf0, Xf1, Xf2, Xf3, Xf4, Xf5, Xf6, Xf7, Xf8, Xf9⟩, Xl⟩ := ten kX
                    go_wp2_with fail
                    refine (do_yes HD2.out ox op OR1.out hX hP).mono ?_
                    rintro e_ w6 ⟨Y6, y6, Y7, y7, Y8, y8, rfl, hY, hb⟩
                    clear Vc0 Vc1 Vc2 Vc3 Vc4 Vc5 Vc6 Vc7 Vc8 Vc9 Vf0 Vf1 Vf2 Vf3 Vf4 Vf5 Vf6 Vf7 Vf8 Vf9 Vl Uc0 Uc1 Uc2 Uc3 Uc4 Uc5 Uc6 Uc7 Uc8 Uc9 Uf0 Uf1 Uf2 Uf3 Uf4 Uf5 Uf6 Uf7 Uf8 Uf9 Ul Pc0 Pc1 Pc2 Pc3 Pc4 Pf0 Pf1 Pf2 Pf3 Pf4 Pl Rc0 Rc1 Rc2 Rc3 Rc4 Rf0 Rf1 Rf2 Rf3 Rf4 Rl Xc0 Xc1 Xc2 Xc3 Xc4 Xc5 Xc6 Xc7 Xc8 Xc9 Xf0 Xf1 Xf2 Xf3 Xf4 Xf5 Xf6 Xf7 Xf8 Xf9 Xl
                    have b_26 := chain b_25 hb
                    replace kV := blk_below kV hb
                    replace kU := blk_below kU hb
                    replace kP := blk_below kP hb
                    replace kR := blk_below kR hb
                    replace kX := blk_below kX hb
                    replace hL := hL.below hb
                    replace hV := hV.below hb
                    replace hU := hU.below hb
                    replace hP := hP.below hb
                    replace hQ := hQ.below hb
                    replace hX := hX.below hb
                    clear b_25
                    clear hb
                    have kY := blk_new w6 (.cells (vcells u Y6 y6 Y7 y7 Y8 y8) 55)
                    have hb := below_alloc1 w6 (.cells (vcells u Y6 y6 Y7 y7 Y8 y8) 55)
                    have b_27 := chain b_26 hb
                    replace kV := blk_below kV hb
                    replace kU := blk_below kU hb
                    replace kP := blk_below kP hb
                    replace kR := blk_below kR hb
                    replace kX := blk_below kX hb
                    replace hL := hL.below hb
                    replace hV := hV.below hb
                    replace hU := hU.below hb
                    replace hP := hP.below hb
                    replace hQ := hQ.below hb
                    replace hX := hX.below hb
                    replace hY := hY.below hb
                    clear b_26
                    clear hb
                    obtain ⟨⟨Vc0, Vc1, Vc2, Vc3, Vc4, Vc5, Vc6, Vc7, Vc8, Vc9⟩, ⟨Vf0, Vf1, Vf2, Vf3, Vf4, Vf5, Vf6, Vf7, Vf8, Vf9⟩, Vl⟩ := ten kV
                    obtain ⟨⟨Uc0, Uc1, Uc2, Uc3, Uc4, Uc5, Uc6, Uc7, Uc8, Uc9⟩, ⟨Uf0, Uf1, Uf2, Uf3, Uf4, Uf5, Uf6, Uf7, Uf8, Uf9⟩, Ul⟩ := ten kU
                    obtain ⟨⟨Pc0, Pc1, Pc2, Pc3, Pc4⟩, ⟨Pf0, Pf1, Pf2, Pf3, Pf4⟩, Pl⟩ := five kP
                    obtain ⟨⟨Rc0, Rc1, Rc2, Rc3, Rc4⟩, ⟨Rf0, Rf1, Rf2, Rf3, Rf4⟩, Rl⟩ := five kR
                    obtain ⟨⟨Xc0, Xc1, Xc2, Xc3, Xc4, Xc5, Xc6, Xc7, Xc8, Xc9⟩, ⟨Xf0, Xf1, Xf2, Xf3, Xf4, Xf5, Xf6, Xf7, Xf8, Xf9⟩, Xl⟩ := ten kX
                    obtain ⟨⟨Yc0, Yc1, Yc2, Yc3, Yc4, Yc5, Yc6, Yc7, Yc8, Yc9⟩, ⟨Yf0, Yf1, Yf2, Yf3, Yf4, Yf5, Yf6, Yf7, Yf8, Yf9⟩, Yl⟩ := ten kY
                    go_wp2_with fail
                    refine (saysV ou _ _ _ _ _ _ _ _ _ _ _ _ _ hY hU).mono ?_
                    rintro e_ w_ ⟨rfl, hb⟩
                    clear Vc0 Vc1 Vc2 Vc3 Vc4 Vc5 Vc6 Vc7 Vc8 Vc9 Vf0 Vf1 Vf2 Vf3 Vf4 Vf5 Vf6 Vf7 Vf8 Vf9 Vl Uc0 Uc1 Uc2 Uc3 Uc4 Uc5 Uc6 Uc7 Uc8 Uc9 Uf0 Uf1 Uf2 Uf3 Uf4 Uf5 Uf6 Uf7 Uf8 Uf9 Ul Pc0 Pc1 Pc2 Pc3 Pc4 Pf0 Pf1 Pf2 Pf3 Pf4 Pl Rc0 Rc1 Rc2 Rc3 Rc4 Rf0 Rf1 Rf2 Rf3 Rf4 Rl Xc0 Xc1 Xc2 Xc3 Xc4 Xc5 Xc6 Xc7 Xc8 Xc9 Xf0 Xf1 Xf2 Xf3 Xf4 Xf5 Xf6 Xf7 Xf8 Xf9 Xl Yc0 Yc1 Yc2 Yc3 Yc4 Yc5 Yc6 Yc7 Yc8 Yc9 Yf0 Yf1 Yf2 Yf3 Yf4 Yf5 Yf6 Yf7 Yf8 Yf9 Yl
                    have b_28 := chain b_27 hb
                    replace kV := blk_below kV hb
                    replace kU := blk_below kU hb
                    replace kP := blk_below kP hb
                    replace kR := blk_below kR hb
                    replace kX := blk_below kX hb
                    replace kY := blk_below kY hb
                    replace hL := hL.below hb
                    replace hV := hV.below hb
                    replace hU := hU.below hb
                    replace hP := hP.below hb
                    replace hQ := hQ.below hb
                    replace hX := hX.below hb
                    replace hY := hY.below hb
                    clear b_27
                    clear hb
                    obtain ⟨⟨Vc0, Vc1, Vc2, Vc3, Vc4, Vc5, Vc6, Vc7, Vc8, Vc9⟩, ⟨Vf0, Vf1, Vf2, Vf3, Vf4, Vf5, Vf6, Vf7, Vf8, Vf9⟩, Vl⟩ := ten kV
                    obtain ⟨⟨Uc0, Uc1, Uc2, Uc3, Uc4, Uc5, Uc6, Uc7, Uc8, Uc9⟩, ⟨Uf0, Uf1, Uf2, Uf3, Uf4, Uf5, Uf6, Uf7, Uf8, Uf9⟩, Ul⟩ := ten kU
                    obtain ⟨⟨Pc0, Pc1, Pc2, Pc3, Pc4⟩, ⟨Pf0, Pf1, Pf2, Pf3, Pf4⟩, Pl⟩ := five kP
                    obtain ⟨⟨Rc0, Rc1, Rc2, Rc3, Rc4⟩, ⟨Rf0, Rf1, Rf2, Rf3, Rf4⟩, Rl⟩ := five kR
                    obtain ⟨⟨Xc0, Xc1, Xc2, Xc3, Xc4, Xc5, Xc6, Xc7, Xc8, Xc9⟩, ⟨Xf0, Xf1, Xf2, Xf3, Xf4, Xf5, Xf6, Xf7, Xf8, Xf9⟩, Xl⟩ := ten kX
                    obtain ⟨⟨Yc0, Yc1, Yc2, Yc3, Yc4, Yc5, Yc6, Yc7, Yc8, Yc9⟩, ⟨Yf0, Yf1, Yf2, Yf3, Yf4, Yf5, Yf6, Yf7, Yf8, Yf9⟩, Yl⟩ := ten kY
                    go_wp2_with fail
                    refine (awake_c _).mono ?_
                    rintro e_ w_ ⟨rfl, hb⟩
                    clear Vc0 Vc1 Vc2 Vc3 Vc4 Vc5 Vc6 Vc7 Vc8 Vc9 Vf0 Vf1 Vf2 Vf3 Vf4 Vf5 Vf6 Vf7 Vf8 Vf9 Vl Uc0 Uc1 Uc2 Uc3 Uc4 Uc5 Uc6 Uc7 Uc8 Uc9 Uf0 Uf1 Uf2 Uf3 Uf4 Uf5 Uf6 Uf7 Uf8 Uf9 Ul Pc0 Pc1 Pc2 Pc3 Pc4 Pf0 Pf1 Pf2 Pf3 Pf4 Pl Rc0 Rc1 Rc2 Rc3 Rc4 Rf0 Rf1 Rf2 Rf3 Rf4 Rl Xc0 Xc1 Xc2 Xc3 Xc4 Xc5 Xc6 Xc7 Xc8 Xc9 Xf0 Xf1 Xf2 Xf3 Xf4 Xf5 Xf6 Xf7 Xf8 Xf9 Xl Yc0 Yc1 Yc2 Yc3 Yc4 Yc5 Yc6 Yc7 Yc8 Yc9 Yf0 Yf1 Yf2 Yf3 Yf4 Yf5 Yf6 Yf7 Yf8 Yf9 Yl
                    have b_29 := chain b_28 hb
                    replace kV := blk_below kV hb
                    replace kU := blk_below kU hb
                    replace kP := blk_below kP hb
                    replace kR := blk_below kR hb
                    replace kX := blk_below kX hb
                    replace kY := blk_below kY hb
                    replace hL := hL.below hb
                    replace hV := hV.below hb
                    replace hU := hU.below hb
                    replace hP := hP.below hb
                    replace hQ := hQ.below hb
                    replace hX := hX.below hb
                    replace hY := hY.below hb
                    clear b_28
                    clear hb
                    obtain ⟨⟨Vc0, Vc1, Vc2, Vc3, Vc4, Vc5, Vc6, Vc7, Vc8, Vc9⟩, ⟨Vf0, Vf1, Vf2, Vf3, Vf4, Vf5, Vf6, Vf7, Vf8, Vf9⟩, Vl⟩ := ten kV
                    obtain ⟨⟨Uc0, Uc1, Uc2, Uc3, Uc4, Uc5, Uc6, Uc7, Uc8, Uc9⟩, ⟨Uf0, Uf1, Uf2, Uf3, Uf4, Uf5, Uf6, Uf7, Uf8, Uf9⟩, Ul⟩ := ten kU
                    obtain ⟨⟨Pc0, Pc1, Pc2, Pc3, Pc4⟩, ⟨Pf0, Pf1, Pf2, Pf3, Pf4⟩, Pl⟩ := five kP
                    obtain ⟨⟨Rc0, Rc1, Rc2, Rc3, Rc4⟩, ⟨Rf0, Rf1, Rf2, Rf3, Rf4⟩, Rl⟩ := five kR
                    obtain ⟨⟨Xc0, Xc1, Xc2, Xc3, Xc4, Xc5, Xc6, Xc7, Xc8, Xc9⟩, ⟨Xf0, Xf1, Xf2, Xf3, Xf4, Xf5, Xf6, Xf7, Xf8, Xf9⟩, Xl⟩ := ten kX
                    obtain ⟨⟨Yc0, Yc1, Yc2, Yc3, Yc4, Yc5, Yc6, Yc7, Yc8, Yc9⟩, ⟨Yf0, Yf1, Yf2, Yf3, Yf4, Yf5, Yf6, Yf7, Yf8, Yf9⟩, Yl⟩ := ten kY
                    go_wp2
                    go_ret
                    exact ⟨rfl, b_29⟩
                | true =>
                  have hi1 : IsT l v (plain (opF l a) p) := by rw [← HQ1.out]; exact H1.out.1 rfl
                  obtain ⟨x, hd, hd2⟩ := do_back HRP.out HNF.out HOV.out hi1
                  have or1 := okr_in HRP.out ov hi1
                  have ox := do_okv op or1 ov hd
                  have HD := Aside0.mk (show doV (a : Int) (l.length : Int) true v p = some x from hd)
                  have HD2 := Aside0.mk (show doV (a : Int) (l.length : Int) false x p = some v from hd2)
                  have OR1 := Aside0.mk or1
                  clear hd hd2 or1 hi1
                  obtain ⟨⟨Vc0, Vc1, Vc2, Vc3, Vc4, Vc5, Vc6, Vc7, Vc8, Vc9⟩, ⟨Vf0, Vf1, Vf2, Vf3, Vf4, Vf5, Vf6, Vf7, Vf8, Vf9⟩, Vl⟩ := ten kV
                  obtain ⟨⟨Uc0, Uc1, Uc2, Uc3, Uc4, Uc5, Uc6, Uc7, Uc8, Uc9⟩, ⟨Uf0, Uf1, Uf2, Uf3, Uf4, Uf5, Uf6, Uf7, Uf8, Uf9⟩, Ul⟩ := ten kU
                  obtain ⟨⟨Pc0, Pc1, Pc2, Pc3, Pc4⟩, ⟨Pf0, Pf1, Pf2, Pf3, Pf4⟩, Pl⟩ := five kP
                  obtain ⟨⟨Rc0, Rc1, Rc2, Rc3, Rc4⟩, ⟨Rf0, Rf1, Rf2, Rf3, Rf4⟩, Rl⟩ := five kR
                  go_wp2_with fail
                  refine (do_yes HD.out ov op OR1.out hV hP).mono ?_
                  rintro e_ w3 ⟨X6, x6, X7, x7, X8, x8, rfl, hX, hb⟩
                  clear Vc0 Vc1 Vc2 Vc3 Vc4 Vc5 Vc6 Vc7 Vc8 Vc9 Vf0 Vf1 Vf2 Vf3 Vf4 Vf5 Vf6 Vf7 Vf8 Vf9 Vl Uc0 Uc1 Uc2 Uc3 Uc4 Uc5 Uc6 Uc7 Uc8 Uc9 Uf0 Uf1 Uf2 Uf3 Uf4 Uf5 Uf6 Uf7 Uf8 Uf9 Ul Pc0 Pc1 Pc2 Pc3 Pc4 Pf0 Pf1 Pf2 Pf3 Pf4 Pl Rc0 Rc1 Rc2 Rc3 Rc4 Rf0 Rf1 Rf2 Rf3 Rf4 Rl
                  have b_30 := chain b_21 hb
                  replace kV := blk_below kV hb
                  replace kU := blk_below kU hb
                  replace kP := blk_below kP hb
                  replace kR := blk_below kR hb
                  replace hL := hL.below hb
                  replace hV := hV.below hb
                  replace hU := hU.below hb
                  replace hP := hP.below hb
                  replace hQ := hQ.below hb
                  clear b_21
                  clear hb
                  have kX := blk_new w3 (.cells (vcells x X6 x6 X7 x7 X8 x8) 55)
                  have hb := below_alloc1 w3 (.cells (vcells x X6 x6 X7 x7 X8 x8) 55)
                  have b_31 := chain b_30 hb
                  replace kV := blk_below kV hb
                  replace kU := blk_below kU hb
                  replace kP := blk_below kP hb
                  replace kR := blk_below kR hb
                  replace hL := hL.below hb
                  replace hV := hV.below hb
                  replace hU := hU.below hb
                  replace hP := hP.below hb
                  replace hQ := hQ.below hb
                  replace hX := hX.below hb
                  clear b_30
                  clear hb
                  obtain ⟨⟨Vc0, Vc1, Vc2, Vc3, Vc4, Vc5, Vc6, Vc7, Vc8, Vc9⟩, ⟨Vf0, Vf1, Vf2, Vf3, Vf4, Vf5, Vf6, Vf7, Vf8, Vf9⟩, Vl⟩ := ten kV
                  obtain ⟨⟨Uc0, Uc1, Uc2, Uc3, Uc4, Uc5, Uc6, Uc7, Uc8, Uc9⟩, ⟨Uf0, Uf1, Uf2, Uf3, Uf4, Uf5, Uf6, Uf7, Uf8, Uf9⟩, Ul⟩ := ten kU
                  obtain ⟨⟨Pc0, Pc1, Pc2, Pc3, Pc4⟩, ⟨Pf0, Pf1, Pf2, Pf3, Pf4⟩, Pl⟩ := five kP
                  obtain ⟨⟨Rc0, Rc1, Rc2, Rc3, Rc4⟩, ⟨Rf0, Rf1, Rf2, Rf3, Rf4⟩, Rl⟩ := five kR
                  obtain ⟨⟨Xc0, Xc1, Xc2, Xc3, Xc4, Xc5, Xc6, Xc7, Xc8, Xc9⟩, ⟨Xf0, Xf1, Xf2, Xf3, Xf4, Xf5, Xf6, Xf7, Xf8, Xf9⟩, Xl⟩ := ten kX
                  go_wp2_with fail
                  refine (do_yes HD2.out ox op OR1.out hX hP).mono ?_
                  rintro e_ w4 ⟨Y6, y6, Y7, y7, Y8, y8, rfl, hY, hb⟩
                  clear Vc0 Vc1 Vc2 Vc3 Vc4 Vc5 Vc6 Vc7 Vc8 Vc9 Vf0 Vf1 Vf2 Vf3 Vf4 Vf5 Vf6 Vf7 Vf8 Vf9 Vl Uc0 Uc1 Uc2 Uc3 Uc4 Uc5 Uc6 Uc7 Uc8 Uc9 Uf0 Uf1 Uf2 Uf3 Uf4 Uf5 Uf6 Uf7 Uf8 Uf9 Ul Pc0 Pc1 Pc2 Pc3 Pc4 Pf0 Pf1 Pf2 Pf3 Pf4 Pl Rc0 Rc1 Rc2 Rc3 Rc4 Rf0 Rf1 Rf2 Rf3 Rf4 Rl Xc0 Xc1 Xc2 Xc3 Xc4 Xc5 Xc6 Xc7 Xc8 Xc9 Xf0 Xf1 Xf2 Xf3 Xf4 Xf5 Xf6 Xf7 Xf8 Xf9 Xl
                  have b_32 := chain b_31 hb
                  replace kV := blk_below kV hb
                  replace kU := blk_below kU hb
                  replace kP := blk_below kP hb
                  replace kR := blk_below kR hb
                  replace kX := blk_below kX hb
                  replace hL := hL.below hb
                  replace hV := hV.below hb
                  replace hU := hU.below hb
                  replace hP := hP.below hb
                  replace hQ := hQ.below hb
                  replace hX := hX.below hb
                  clear b_31
                  clear hb
                  have kY := blk_new w4 (.cells (vcells v Y6 y6 Y7 y7 Y8 y8) 55)
                  have hb := below_alloc1 w4 (.cells (vcells v Y6 y6 Y7 y7 Y8 y8) 55)
                  have b_33 := chain b_32 hb
                  replace kV := blk_below kV hb
                  replace kU := blk_below kU hb
                  replace kP := blk_below kP hb
                  replace kR := blk_below kR hb
                  replace kX := blk_below kX hb
                  replace hL := hL.below hb
                  replace hV := hV.below hb
                  replace hU := hU.below hb
                  replace hP := hP.below hb
                  replace hQ := hQ.below hb
                  replace hX := hX.below hb
                  replace hY := hY.below hb
                  clear b_32
                  clear hb
                  obtain ⟨⟨Vc0, Vc1, Vc2, Vc3, Vc4, Vc5, Vc6, Vc7, Vc8, Vc9⟩, ⟨Vf0, Vf1, Vf2, Vf3, Vf4, Vf5, Vf6, Vf7, Vf8, Vf9⟩, Vl⟩ := ten kV
                  obtain ⟨⟨Uc0, Uc1, Uc2, Uc3, Uc4, Uc5, Uc6, Uc7, Uc8, Uc9⟩, ⟨Uf0, Uf1, Uf2, Uf3, Uf4, Uf5, Uf6, Uf7, Uf8, Uf9⟩, Ul⟩ := ten kU
                  obtain ⟨⟨Pc0, Pc1, Pc2, Pc3, Pc4⟩, ⟨Pf0, Pf1, Pf2, Pf3, Pf4⟩, Pl⟩ := five kP
                  obtain ⟨⟨Rc0, Rc1, Rc2, Rc3, Rc4⟩, ⟨Rf0, Rf1, Rf2, Rf3, Rf4⟩, Rl⟩ := five kR
                  obtain ⟨⟨Xc0, Xc1, Xc2, Xc3, Xc4, Xc5, Xc6, Xc7, Xc8, Xc9⟩, ⟨Xf0, Xf1, Xf2, Xf3, Xf4, Xf5, Xf6, Xf7, Xf8, Xf9⟩, Xl⟩ := ten kX
                  obtain ⟨⟨Yc0, Yc1, Yc2, Yc3, Yc4, Yc5, Yc6, Yc7, Yc8, Yc9⟩, ⟨Yf0, Yf1, Yf2, Yf3, Yf4, Yf5, Yf6, Yf7, Yf8, Yf9⟩, Yl⟩ := ten kY
                  go_wp2_with fail
                  refine (saysV ov _ _ _ _ _ _ _ _ _ _ _ _ _ hY hV).mono ?_
                  rintro e_ w_ ⟨rfl, hb⟩
                  clear Vc0 Vc1 Vc2 Vc3 Vc4 Vc5 Vc6 Vc7 Vc8 Vc9 Vf0 Vf1 Vf2 Vf3 Vf4 Vf5 Vf6 Vf7 Vf8 Vf9 Vl Uc0 Uc1 Uc2 Uc3 Uc4 Uc5 Uc6 Uc7 Uc8 Uc9 Uf0 Uf1 Uf2 Uf3 Uf4 Uf5 Uf6 Uf7 Uf8 Uf9 Ul Pc0 Pc1 Pc2 Pc3 Pc4 Pf0 Pf1 Pf2 Pf3 Pf4 Pl Rc0 Rc1 Rc2 Rc3 Rc4 Rf0 Rf1 Rf2 Rf3 Rf4 Rl Xc0 Xc1 Xc2 Xc3 Xc4 Xc5 Xc6 Xc7 Xc8 Xc9 Xf0 Xf1 Xf2 Xf3 Xf4 Xf5 Xf6 Xf7 Xf8 Xf9 Xl Yc0 Yc1 Yc2 Yc3 Yc4 Yc5 Yc6 Yc7 Yc8 Yc9 Yf0 Yf1 Yf2 Yf3 Yf4 Yf5 Yf6 Yf7 Yf8 Yf9 Yl
                  have b_34 := chain b_33 hb
                  replace kV := blk_below kV hb
                  replace kU := blk_below kU hb
                  replace kP := blk_below kP hb
                  replace kR := blk_below kR hb
                  replace kX := blk_below kX hb
                  replace kY := blk_below kY hb
                  replace hL := hL.below hb
                  replace hV := hV.below hb
                  replace hU := hU.below hb
                  replace hP := hP.below hb
                  replace hQ := hQ.below hb
                  replace hX := hX.below hb
                  replace hY := hY.below hb
                  clear b_33
                  clear hb
                  clear hX kX hY kY HD HD2 OR1 ox
                  obtain ⟨⟨Vc0, Vc1, Vc2, Vc3, Vc4, Vc5, Vc6, Vc7, Vc8, Vc9⟩, ⟨Vf0, Vf1, Vf2, Vf3, Vf4, Vf5, Vf6, Vf7, Vf8, Vf9⟩, Vl⟩ := ten kV
                  obtain ⟨⟨Uc0, Uc1, Uc2, Uc3, Uc4, Uc5, Uc6, Uc7, Uc8, Uc9⟩, ⟨Uf0, Uf1, Uf2, Uf3, Uf4, Uf5, Uf6, Uf7, Uf8, Uf9⟩, Ul⟩ := ten kU
                  obtain ⟨⟨Pc0, Pc1, Pc2, Pc3, Pc4⟩, ⟨Pf0, Pf1, Pf2, Pf3, Pf4⟩, Pl⟩ := five kP
                  obtain ⟨⟨Rc0, Rc1, Rc2, Rc3, Rc4⟩, ⟨Rf0, Rf1, Rf2, Rf3, Rf4⟩, Rl⟩ := five kR
                  go_wp2_with fail
                  refine (CI2.out hL hU hP).mono ?_
                  rintro e_ w_ ⟨rfl, hb⟩
                  clear Vc0 Vc1 Vc2 Vc3 Vc4 Vc5 Vc6 Vc7 Vc8 Vc9 Vf0 Vf1 Vf2 Vf3 Vf4 Vf5 Vf6 Vf7 Vf8 Vf9 Vl Uc0 Uc1 Uc2 Uc3 Uc4 Uc5 Uc6 Uc7 Uc8 Uc9 Uf0 Uf1 Uf2 Uf3 Uf4 Uf5 Uf6 Uf7 Uf8 Uf9 Ul Pc0 Pc1 Pc2 Pc3 Pc4 Pf0 Pf1 Pf2 Pf3 Pf4 Pl Rc0 Rc1 Rc2 Rc3 Rc4 Rf0 Rf1 Rf2 Rf3 Rf4 Rl
                  have b_35 := chain b_34 hb
                  replace kV := blk_below kV hb
                  replace kU := blk_below kU hb
                  replace kP := blk_below kP hb
                  replace kR := blk_below kR hb
                  replace hL := hL.below hb
                  replace hV := hV.below hb
                  replace hU := hU.below hb
                  replace hP := hP.below hb
                  replace hQ := hQ.below hb
                  clear b_34
                  clear hb
                  cases b2 with
                  | false =>
                    obtain ⟨⟨Vc0, Vc1, Vc2, Vc3, Vc4, Vc5, Vc6, Vc7, Vc8, Vc9⟩, ⟨Vf0, Vf1, Vf2, Vf3, Vf4, Vf5, Vf6, Vf7, Vf8, Vf9⟩, Vl⟩ := ten kV
                    obtain ⟨⟨Uc0, Uc1, Uc2, Uc3, Uc4, Uc5, Uc6, Uc7, Uc8, Uc9⟩, ⟨Uf0, Uf1, Uf2, Uf3, Uf4, Uf5, Uf6, Uf7, Uf8, Uf9⟩, Ul⟩ := ten kU
                    obtain ⟨⟨Pc0, Pc1, Pc2, Pc3, Pc4⟩, ⟨Pf0, Pf1, Pf2, Pf3, Pf4⟩, Pl⟩ := five kP
                    obtain ⟨⟨Rc0, Rc1, Rc2, Rc3, Rc4⟩, ⟨Rf0, Rf1, Rf2, Rf3, Rf4⟩, Rl⟩ := five kR
                    go_wp2_with fail
                    refine (awake_c _).mono ?_
                    rintro e_ w_ ⟨rfl, hb⟩
                    clear Vc0 Vc1 Vc2 Vc3 Vc4 Vc5 Vc6 Vc7 Vc8 Vc9 Vf0 Vf1 Vf2 Vf3 Vf4 Vf5 Vf6 Vf7 Vf8 Vf9 Vl Uc0 Uc1 Uc2 Uc3 Uc4 Uc5 Uc6 Uc7 Uc8 Uc9 Uf0 Uf1 Uf2 Uf3 Uf4 Uf5 Uf6 Uf7 Uf8 Uf9 Ul Pc0 Pc1 Pc2 Pc3 Pc4 Pf0 Pf1 Pf2 Pf3 Pf4 Pl Rc0 Rc1 Rc2 Rc3 Rc4 Rf0 Rf1 Rf2 Rf3 Rf4 Rl
                    have b_36 := chain b_35 hb
                    replace kV := blk_below kV hb
                    replace kU := blk_below kU hb
                    replace kP := blk_below kP hb
                    replace kR := blk_below kR hb
                    replace hL := hL.below hb
                    replace hV := hV.below hb
                    replace hU := hU.below hb
                    replace hP := hP.below hb
                    replace hQ := hQ.below hb
                    clear b_35
                    clear hb
                    obtain ⟨⟨Vc0, Vc1, Vc2, Vc3, Vc4, Vc5, Vc6, Vc7, Vc8, Vc9⟩, ⟨Vf0, Vf1, Vf2, Vf3, Vf4, Vf5, Vf6, Vf7, Vf8, Vf9⟩, Vl⟩ := ten kV
                    obtain ⟨⟨Uc0, Uc1, Uc2, Uc3, Uc4, Uc5, Uc6, Uc7, Uc8, Uc9⟩, ⟨Uf0, Uf1, Uf2, Uf3, Uf4, Uf5, Uf6, Uf7, Uf8, Uf9⟩, Ul⟩ := ten kU
                    obtain ⟨⟨Pc0, Pc1, Pc2, Pc3, Pc4⟩, ⟨Pf0, Pf1, Pf2, Pf3, Pf4⟩, Pl⟩ := five kP
                    obtain ⟨⟨Rc0, Rc1, Rc2, Rc3, Rc4⟩, ⟨Rf0, Rf1, Rf2, Rf3, Rf4⟩, Rl⟩ := five kR
                    go_wp2
                    go_ret
                    exact ⟨rfl, b_36⟩
                  | true =>
                    have hi1 : IsT l u p := H2.out.1 rfl
                    obtain ⟨x, hd, hd2⟩ := do_forth (a := a) HRP.out HNF.out HOU.out hi1
                    have or1 := okr_out HRP.out ou hi1
                    have ox := do_okv op or1 ou hd
                    have HD := Aside0.mk (show doV (a : Int) (l.length : Int) false u p = some x from hd)
                    have HD2 := Aside0.mk (show doV (a : Int) (l.length : Int) true x p = some u from hd2)
                    have OR1 := Aside0.mk or1
                    clear hd hd2 or1 hi1
                    obtain ⟨⟨Vc0, Vc1, Vc2, Vc3, Vc4, Vc5, Vc6, Vc7, Vc8, Vc9⟩, ⟨Vf0, Vf1, Vf2, Vf3, Vf4, Vf5, Vf6, Vf7, Vf8, Vf9⟩, Vl⟩ := ten kV
                    obtain ⟨⟨Uc0, Uc1, Uc2, Uc3, Uc4, Uc5, Uc6, Uc7, Uc8, Uc9⟩, ⟨Uf0, Uf1, Uf2, Uf3, Uf4, Uf5, Uf6, Uf7, Uf8, Uf9⟩, Ul⟩ := ten kU
                    obtain ⟨⟨Pc0, Pc1, Pc2, Pc3, Pc4⟩, ⟨Pf0, Pf1, Pf2, Pf3, Pf4⟩, Pl⟩ := five kP
                    obtain ⟨⟨Rc0, Rc1, Rc2, Rc3, Rc4⟩, ⟨Rf0, Rf1, Rf2, Rf3, Rf4⟩, Rl⟩ := five kR
                    go_wp2_with fail
                    refine (do_yes HD.out ou op OR1.out hU hP).mono ?_
                    rintro e_ w5 ⟨X6, x6, X7, x7, X8, x8, rfl, hX, hb⟩
                    clear Vc0 Vc1 Vc2 Vc3 Vc4 Vc5 Vc6 Vc7 Vc8 Vc9 Vf0 Vf1 Vf2 Vf3 Vf4 Vf5 Vf6 Vf7 Vf8 Vf9 Vl Uc0 Uc1 Uc2 Uc3 Uc4 Uc5 Uc6 Uc7 Uc8 Uc9 Uf0 Uf1 Uf2 Uf3 Uf4 Uf5 Uf6 Uf7 Uf8 Uf9 Ul Pc0 Pc1 Pc2 Pc3 Pc4 Pf0 Pf1 Pf2 Pf3 Pf4 Pl Rc0 Rc1 Rc2 Rc3 Rc4 Rf0 Rf1 Rf2 Rf3 Rf4 Rl
                    have b_37 := chain b_35 hb
                    replace kV := blk_below kV hb
                    replace kU := blk_below kU hb
                    replace kP := blk_below kP hb
                    replace kR := blk_below kR hb
                    replace hL := hL.below hb
                    replace hV := hV.below hb
                    replace hU := hU.below hb
                    replace hP := hP.below hb
                    replace hQ := hQ.below hb
                    clear b_35
                    clear hb
                    have kX := blk_new w5 (.cells (vcells x X6 x6 X7 x7 X8 x8) 55)
                    have hb := below_alloc1 w5 (.cells (vcells x X6 x6 X7 x7 X8 x8) 55)
                    have b_38 := chain b_37 hb
                    replace kV := blk_below kV hb
                    replace kU := blk_below kU hb
                    replace kP := blk_below kP hb
                    replace kR := blk_below kR hb
                    replace hL := hL.below hb
                    replace hV := hV.below hb
                    replace hU := hU.below hb
                    replace hP := hP.below hb
                    replace hQ := hQ.below hb
                    replace hX := hX.below hb
                    clear b_37
                    clear hb
                    obtain ⟨⟨Vc0, Vc1, Vc2, Vc3, Vc4, Vc5, Vc6, Vc7, Vc8, Vc9⟩, ⟨Vf0, Vf1, Vf2, Vf3, Vf4, Vf5, Vf6, Vf7, Vf8, Vf9⟩, Vl⟩ := ten kV
                    obtain ⟨⟨Uc0, Uc1, Uc2, Uc3, Uc4, Uc5, Uc6, Uc7, Uc8, Uc9⟩, ⟨Uf0, Uf1, Uf2, Uf3, Uf4, Uf5, Uf6, Uf7, Uf8, Uf9⟩, Ul⟩ := ten kU
                    obtain ⟨⟨Pc0, Pc1, Pc2, Pc3, Pc4⟩, ⟨Pf0, Pf1, Pf2, Pf3, Pf4⟩, Pl⟩ := five kP
                    obtain ⟨⟨Rc0, Rc1, Rc2, Rc3, Rc4⟩, ⟨Rf0, Rf1, Rf2, Rf3, Rf4⟩, Rl⟩ := five kR
                    obtain ⟨⟨Xc0, Xc1, Xc2, Xc3, Xc4, Xc5, Xc6, Xc7, Xc8, Xc9⟩, ⟨Xf0, Xf1, Xf2, Xf3, Xf4, Xf5, Xf6, Xf7, Xf8, Xf9⟩, Xl⟩ := ten kX
                    go_wp2_with fail
                    refine (do_yes HD2.out ox op OR1.out hX hP).mono ?_
                    rintro e_ w6 ⟨Y6, y6, Y7, y7, Y8, y8, rfl, hY, hb⟩
                    clear Vc0 Vc1 Vc2 Vc3 Vc4 Vc5 Vc6 Vc7 Vc8 Vc9 Vf0 Vf1 Vf2 Vf3 Vf4 Vf5 Vf6 Vf7 Vf8 Vf9 Vl Uc0 Uc1 Uc2 Uc3 Uc4 Uc5 Uc6 Uc7 Uc8 Uc9 Uf0 Uf1 Uf2 Uf3 Uf4 Uf5 Uf6 Uf7 Uf8 Uf9 Ul Pc0 Pc1 Pc2 Pc3 Pc4 Pf0 Pf1 Pf2 Pf3 Pf4 Pl Rc0 Rc1 Rc2 Rc3 Rc4 Rf0 Rf1 Rf2 Rf3 Rf4 Rl Xc0 Xc1 Xc2 Xc3 Xc4 Xc5 Xc6 Xc7 Xc8 Xc9 Xf0 Xf1 Xf2 Xf3 Xf4 Xf5 Xf6 Xf7 Xf8 Xf9 Xl
                    have b_39 := chain b_38 hb
                    replace kV := blk_below kV hb
                    replace kU := blk_below kU hb
                    replace kP := blk_below kP hb
                    replace kR := blk_below kR hb
                    replace kX := blk_below kX hb
                    replace hL := hL.below hb
                    replace hV := hV.below hb
                    replace hU := hU.below hb
                    replace hP := hP.below hb
                    replace hQ := hQ.below hb
                    replace hX := hX.below hb
                    clear b_38
                    clear hb
                    have kY := blk_new w6 (.cells (vcells u Y6 y6 Y7 y7 Y8 y8) 55)
                    have hb := below_alloc1 w6 (.cells (vcells u Y6 y6 Y7 y7 Y8 y8) 55)
                    have b_40 := chain b_39 hb
                    replace kV := blk_below kV hb
                    replace kU := blk_below kU hb
                    replace kP := blk_below kP hb
                    replace kR := blk_below kR hb
                    replace kX := blk_below kX hb
                    replace hL := hL.below hb
                    replace hV := hV.below hb
                    replace hU := hU.below hb
                    replace hP := hP.below hb
                    replace hQ := hQ.below hb
                    replace hX := hX.below hb
                    replace hY := hY.below hb
                    clear b_39
                    clear hb
                    obtain ⟨⟨Vc0, Vc1, Vc2, Vc3, Vc4, Vc5, Vc6, Vc7, Vc8, Vc9⟩, ⟨Vf0, Vf1, Vf2, Vf3, Vf4, Vf5, Vf6, Vf7, Vf8, Vf9⟩, Vl⟩ := ten kV
                    obtain ⟨⟨Uc0, Uc1, Uc2, Uc3, Uc4, Uc5, Uc6, Uc7, Uc8, Uc9⟩, ⟨Uf0, Uf1, Uf2, Uf3, Uf4, Uf5, Uf6, Uf7, Uf8, Uf9⟩, Ul⟩ := ten kU
                    obtain ⟨⟨Pc0, Pc1, Pc2, Pc3, Pc4⟩, ⟨Pf0, Pf1, Pf2, Pf3, Pf4⟩, Pl⟩ := five kP
                    obtain ⟨⟨Rc0, Rc1, Rc2, Rc3, Rc4⟩, ⟨Rf0, Rf1, Rf2, Rf3, Rf4⟩, Rl⟩ := five kR
                    obtain ⟨⟨Xc0, Xc1, Xc2, Xc3, Xc4, Xc5, Xc6, Xc7, Xc8, Xc9⟩, ⟨Xf0, Xf1, Xf2, Xf3, Xf4, Xf5, Xf6, Xf7, Xf8, Xf9⟩, Xl⟩ := ten kX
                    obtain ⟨⟨Yc0, Yc1, Yc2, Yc3, Yc4, Yc5, Yc6, Yc7, Yc8, Yc9⟩, ⟨Yf0, Yf1, Yf2, Yf3, Yf4, Yf5, Yf6, Yf7, Yf8, Yf9⟩, Yl⟩ := ten kY
                    go_wp2_with fail
                    refine (saysV ou _ _ _ _ _ _ _ _ _ _ _ _ _ hY hU).mono ?_
                    rintro e_ w_ ⟨rfl, hb⟩
                    clear Vc0 Vc1 Vc2 Vc3 Vc4 Vc5 Vc6 Vc7 Vc8 Vc9 Vf0 Vf1 Vf2 Vf3 Vf4 Vf5 Vf6 Vf7 Vf8 Vf9 Vl Uc0 Uc1 Uc2 Uc3 Uc4 Uc5 Uc6 Uc7 Uc8 Uc9 Uf0 Uf1 Uf2 Uf3 Uf4 Uf5 Uf6 Uf7 Uf8 Uf9 Ul Pc0 Pc1 Pc2 Pc3 Pc4 Pf0 Pf1 Pf2 Pf3 Pf4 Pl Rc0 Rc1 Rc2 Rc3 Rc4 Rf0 Rf1 Rf2 Rf3 Rf4 Rl Xc0 Xc1 Xc2 Xc3 Xc4 Xc5 Xc6 Xc7 Xc8 Xc9 Xf0 Xf1 Xf2 Xf3 Xf4 Xf5 Xf6 Xf7 Xf8 Xf9 Xl Yc0 Yc1 Yc2 Yc3 Yc4 Yc5 Yc6 Yc7 Yc8 Yc9 Yf0 Yf1 Yf2 Yf3 Yf4 Yf5 Yf6 Yf7 Yf8 Yf9 Yl
                    have b_41 := chain b_40 hb
                    replace kV := blk_below kV hb
                    replace kU := blk_below kU hb
                    replace kP := blk_below kP hb
                    replace kR := blk_below kR hb
                    replace kX := blk_below kX hb
                    replace kY := blk_below kY hb
                    replace hL := hL.below hb
                    replace hV := hV.below hb
                    replace hU := hU.below hb
                    replace hP := hP.below hb
                    replace hQ := hQ.below hb
                    replace hX := hX.below hb
                    replace hY := hY.below hb
                    clear b_40
                    clear hb
                    obtain ⟨⟨Vc0, Vc1, Vc2, Vc3, Vc4, Vc5, Vc6, Vc7, Vc8, Vc9⟩, ⟨Vf0, Vf1, Vf2, Vf3, Vf4, Vf5, Vf6, Vf7, Vf8, Vf9⟩, Vl⟩ := ten kV
                    obtain ⟨⟨Uc0, Uc1, Uc2, Uc3, Uc4, Uc5, Uc6, Uc7, Uc8, Uc9⟩, ⟨Uf0, Uf1, Uf2, Uf3, Uf4, Uf5, Uf6, Uf7, Uf8, Uf9⟩, Ul⟩ := ten kU
                    obtain ⟨⟨Pc0, Pc1, Pc2, Pc3, Pc4⟩, ⟨Pf0, Pf1, Pf2, Pf3, Pf4⟩, Pl⟩ := five kP
                    obtain ⟨⟨Rc0, Rc1, Rc2, Rc3, Rc4⟩, ⟨Rf0, Rf1, Rf2, Rf3, Rf4⟩, Rl⟩ := five kR
                    obtain ⟨⟨Xc0, Xc1, Xc2, Xc3, Xc4, Xc5, Xc6, Xc7, Xc8, Xc9⟩, ⟨Xf0, Xf1, Xf2, Xf3, Xf4, Xf5, Xf6, Xf7, Xf8, Xf9⟩, Xl⟩ := ten kX
                    obtain ⟨⟨Yc0, Yc1, Yc2, Yc3, Yc4, Yc5, Yc6, Yc7, Yc8, Yc9⟩, ⟨Yf0, Yf1, Yf2, Yf3, Yf4, Yf5, Yf6, Yf7, Yf8, Yf9⟩, Yl⟩ := ten kY
                    go_wp2_with fail
                    refine (awake_c _).mono ?_
                    rintro e_ w_ ⟨rfl, hb⟩
                    clear Vc0 Vc1 Vc2 Vc3 Vc4 Vc5 Vc6 Vc7 Vc8 Vc9 Vf0 Vf1 Vf2 Vf3 Vf4 Vf5 Vf6 Vf7 Vf8 Vf9 Vl Uc0 Uc1 Uc2 Uc3 Uc4 Uc5 Uc6 Uc7 Uc8 Uc9 Uf0 Uf1 Uf2 Uf3 Uf4 Uf5 Uf6 Uf7 Uf8 Uf9 Ul Pc0 Pc1 Pc2 Pc3 Pc4 Pf0 Pf1 Pf2 Pf3 Pf4 Pl Rc0 Rc1 Rc2 Rc3 Rc4 Rf0 Rf1 Rf2 Rf3 Rf4 Rl Xc0 Xc1 Xc2 Xc3 Xc4 Xc5 Xc6 Xc7 Xc8 Xc9 Xf0 Xf1 Xf2 Xf3 Xf4 Xf5 Xf6 Xf7 Xf8 Xf9 Xl Yc0 Yc1 Yc2 Yc3 Yc4 Yc5 Yc6 Yc7 Yc8 Yc9 Yf0 Yf1 Yf2 Yf3 Yf4 Yf5 Yf6 Yf7 Yf8 Yf9 Yl
                    have b_42 := chain b_41 hb
                    replace kV := blk_below kV hb
                    replace kU := blk_below kU hb
                    replace kP := blk_below kP hb
                    replace kR := blk_below kR hb
                    replace kX := blk_below kX hb
                    replace kY := blk_below kY hb
                    replace hL := hL.below hb
                    replace hV := hV.below hb
                    replace hU := hU.below hb
                    replace hP := hP.below hb
                    replace hQ := hQ.below hb
                    replace hX := hX.below hb
                    replace hY := hY.below hb
                    clear b_41
                    clear hb
                    obtain ⟨⟨Vc0, Vc1, Vc2, Vc3, Vc4, Vc5, Vc6, Vc7, Vc8, Vc9⟩, ⟨Vf0, Vf1, Vf2, Vf3, Vf4, Vf5, Vf6, Vf7, Vf8, Vf9⟩, Vl⟩ := ten kV
                    obtain ⟨⟨Uc0, Uc1, Uc2, Uc3, Uc4, Uc5, Uc6, Uc7, Uc8, Uc9⟩, ⟨Uf0, Uf1, Uf2, Uf3, Uf4, Uf5, Uf6, Uf7, Uf8, Uf9⟩, Ul⟩ := ten kU
                    obtain ⟨⟨Pc0, Pc1, Pc2, Pc3, Pc4⟩, ⟨Pf0, Pf1, Pf2, Pf3, Pf4⟩, Pl⟩ := five kP
                    obtain ⟨⟨Rc0, Rc1, Rc2, Rc3, Rc4⟩, ⟨Rf0, Rf1, Rf2, Rf3, Rf4⟩, Rl⟩ := five kR
                    obtain ⟨⟨Xc0, Xc1, Xc2, Xc3, Xc4, Xc5, Xc6, Xc7, Xc8, Xc9⟩, ⟨Xf0, Xf1, Xf2, Xf3, Xf4, Xf5, Xf6, Xf7, Xf8, Xf9⟩, Xl⟩ := ten kX
                    obtain ⟨⟨Yc0, Yc1, Yc2, Yc3, Yc4, Yc5, Yc6, Yc7, Yc8, Yc9⟩, ⟨Yf0, Yf1, Yf2, Yf3, Yf4, Yf5, Yf6, Yf7, Yf8, Yf9⟩, Yl⟩ := ten kY
                    go_wp2
                    go_ret
                    exact ⟨rfl, b_42⟩
end Go.Proofs.Ytnfnhjhnfdkinaa.PConvBack

/-
  ConvKeeps: texts of this claim, put together by a program of this session. No conditions beyond what each lemma says.
-/
import Derived.Test.YtnfnhjhnfdkinaazConvKeeps28
namespace Go.Proofs.Ytnfnhjhnfdkinaa.PConvBack
open Go.RowKit Go.Proofs.YtnfnhjhnfdkinaaW.Mine Go.Proofs.YtnfnhjhnfdkinaaW.PrintWords Go.Proofs.YtnfnhjhnfdkinaaW.PrintLast Go.Proofs.YtnfnhjhnfdkinaaW.PrintMore
attribute [local go_sem] max2_int min2_int max_two min_two max_three min_three max_four min_four
set_option linter.unusedVariables false
set_option linter.unusedSimpArgs false
/-- Along records: so few labels that as many values may be. -/
inductive Okr : Ty → Prop
  | mk (x : Ty) (h : x.f0 = 8 → x.f3.length * 144 ≤ 140737488351232) (hs : x.f0 = 8 → ∀ y, y ∈ x.f4 → Okr y) : Okr x
theorem Okr.len {x : Ty} (h : Okr x) (h8 : x.f0 = 8) : x.f3.length * 144 ≤ 140737488351232 := by cases h with | mk _ a b => exact a h8
theorem Okr.all {x : Ty} (h : Okr x) (h8 : x.f0 = 8) : ∀ y, y ∈ x.f4 → Okr y := by cases h with | mk _ a b => exact b h8
theorem Sm.of_okt : ∀ (n : Nat) (x : Ty), SizeOf.sizeOf x < n → Okt x → Sm x
  | 0, _, h, _ => absurd h (Nat.not_lt_zero _)
  | n + 1, x, h, o => .mk x o.l80 (fun y hy => Sm.of_okt n y (by have := size_args x y hy; omega) (o.all y hy))
theorem okt_sm {x : Ty} (o : Okt x) : Sm x := Sm.of_okt _ x (Nat.lt_succ_self _) o
theorem turnV_no {lo up : Int} {inn : Bool} {n : Nat} {v : Vl} {p : Ty} (h : hasB lo up p = false) : turnV lo up inn (n + 1) v p = some v := by simp only [turnV, h]; rfl
theorem turnV_seal {lo up : Int} {inn : Bool} {n : Nat} {v : Vl} {p : Ty} (h : hasB lo up p = true) (h9 : p.f0 = 9) : turnV lo up inn (n + 1) v p = sealV inn v p.f1 := by simp only [turnV, h, h9, if_true]
theorem turnV_fun {lo up : Int} {inn : Bool} {n : Nat} {v : Vl} {p : Ty} (h : hasB lo up p = true) (h9 : p.f0 = 7) : turnV lo up inn (n + 1) v p = functionV lo up inn v p := by simp only [turnV, h, if_true]; rw [if_neg (by omega), if_pos h9]
theorem turnV_rec {lo up : Int} {inn : Bool} {n : Nat} {v : Vl} {p : Ty} (h : hasB lo up p = true) (h9 : p.f0 = 8) : turnV lo up inn (n + 1) v p = recordV (turnV lo up inn n) v p := by simp only [turnV, h, if_true]; rw [if_neg (by omega), if_neg (by omega), if_pos h9]
theorem turnV_none {lo up : Int} {inn : Bool} {n : Nat} {v : Vl} {p : Ty} (h : hasB lo up p = true) (h9 : ¬ p.f0 = 9) (h7 : ¬ p.f0 = 7) (h8 : ¬ p.f0 = 8) : turnV lo up inn (n + 1) v p = none := by simp only [turnV, h, if_true]; rw [if_neg h9, if_neg h7, if_neg h8]
set_option maxHeartbeats 16000000 in
set_option maxRecDepth 100000 in
theorem turn_c (lo up : Int) (inn : Bool) : ∀ (n : Nat) (p : Ty), SizeOf.sizeOf p < n → Okt p → Okr p → TurnC lo up inn (turnV lo up inn n) p
  | 0, _, h, _, _ => absurd h (Nat.not_lt_zero _)
  | n + 1, p, h, op, orr => fun v ov ok A6 c6 A7 c7 A8 c8 A3 c3 A4 c4 w hok hv hp => by
    have hs : p.f0 = 8 → ∀ y, y ∈ p.f4 → TurnC lo up inn (turnV lo up inn n) y := fun h8 y hy => turn_c lo up inn n y (by have := size_args p y hy; omega) (op.all y hy) (orr.all h8 y hy)
    have HS := Aside0.mk hs
    have OP := Aside0.mk op
    have OR := Aside0.mk orr
    have OV := Aside0.mk ov
    have HOK := Aside0.mk hok
    have QN := Aside0.mk (turnV_no (inn := inn) (n := n) (v := v) (lo := lo) (up := up) (p := p))
    have Q9 := Aside0.mk (turnV_seal (inn := inn) (n := n) (v := v) (lo := lo) (up := up) (p := p))
    have Q7 := Aside0.mk (turnV_fun (inn := inn) (n := n) (v := v) (lo := lo) (up := up) (p := p))
    have Q8 := Aside0.mk (turnV_rec (inn := inn) (n := n) (v := v) (lo := lo) (up := up) (p := p))
    have Q0 := Aside0.mk (turnV_none (inn := inn) (n := n) (v := v) (lo := lo) (up := up) (p := p))
    generalize turnV lo up inn (n + 1) v p = o at *
    clear hs h op orr ov hok
    obtain ⟨⟨kW, kV, kP, kR⟩, b0, sz0⟩ := fourb w (wcells lo up inn) (vcells v A6 c6 A7 c7 A8 c8) (tarr p A3 c3 A4 c4) zcells 92 55 25 55
    have HV := Aside0.mk hv
    have HP := Aside0.mk hp
    clear hv hp sz0
    obtain ⟨⟨y0, y1, y2⟩, _, lw⟩ := three kW
    obtain ⟨⟨v0, v1, v2, v3, v4, v5, v6, v7, v8, v9⟩, _, lv⟩ := ten kV
    obtain ⟨⟨p0, p1, p2, p3, p4⟩, _, lp⟩ := five kP
    go_enter Try.func81, Try.ntmps81
    go_wp2_with fail
    refine (has_c lo up inn _ p (Nat.lt_succ_self _) (okt_sm OP.out) A3 c3 A4 c4 _ (HP.out.below b0).rt).mono ?_
    rintro e w1 ⟨rfl, hb⟩
    clear y0 y1 y2 lw v0 v1 v2 v3 v4 v5 v6 v7 v8 v9 lv p0 p1 p2 p3 p4 lp
    have b1 := chain b0 hb
    replace kW := blk_up hb kW
    replace kV := blk_up hb kV
    replace kP := blk_up hb kP
    replace kR := blk_up hb kR
    clear hb b0
    have hok1 : ∀ k, ok k → k < w1.heap.size := fun k hk => Nat.lt_of_lt_of_le (HOK.out k hk) b1.size
    have HV1 := Aside0.mk (HV.out.below b1)
    have HP1 := Aside0.mk (HP.out.below b1)
    have HOK1 := Aside0.mk hok1
    have szb := b1.size
    clear hok1 HV HP
    obtain ⟨⟨y0, y1, y2⟩, _, lw⟩ := three kW
    obtain ⟨⟨v0, v1, v2, v3, v4, v5, v6, v7, v8, v9⟩, _, lv⟩ := ten kV
    obtain ⟨⟨p0, p1, p2, p3, p4⟩, _, lp⟩ := five kP
    cases hh : hasB lo up p with
    | false =>
      have HN := Aside0.mk (QN.out hh)
      clear hh QN Q9 Q7 Q8 Q0
      obtain ⟨⟨r0, r1, r2, r3, r4, r5, r6, r7, r8, r9⟩, ⟨s0, s1, s2, s3, s4, s5, s6, s7, s8, s9⟩, lr⟩ := ten kR
      go_wp2
      (try simp only [Exit.inBlock, Exit.then]); refine bodyPost_ret (results_ct rfl _ _ _ 55 _ (0, 0) _ rfl (stored10 kR _ _ _ _ _ _ _ _ _ _) Try.underlying55 rfl (by kernel_rfl)) rfl ?_
      exact VOut.yes (below10 b1 (by omega) _ _ _ _ _ _ _ _ _ _) HN.out ((HV1.out.stored (fun k hk => by have := HOK.out k hk; omega) _ _ _ _ _ _ _ _ _ _).mono (fun k hk => .inl hk))
    | true =>
      by_cases h9 : p.f0 = 9
      · have HN := Aside0.mk (Q9.out hh h9)
        have h91 : decide (p.f0 = 9) = true := decide_eq_true (by first | exact h9 | omega)
        have h92 : (p.f0 == 9) = true := by first | simpa using h9 | (simp; omega)
        have h93 : (p.f0 != 9) = false := by first | simpa using h9 | (simp; omega)
        clear hh QN Q9 Q7 Q8 Q0 h9
        go_wp2_with fail
        refine (seal_c lo up inn v p.f1 HOK1.out HV1.out).mono ?_
        clear y0 y1 y2 lw v0 v1 v2 v3 v4 v5 v6 v7 v8 v9 lv p0 p1 p2 p3 p4 lp
        have HN' := HN.out
        clear HN
        rw [← HN']
        clear HN'
        cases o with
        | none =>
          rintro e w5 ⟨hb5, rfl⟩
          have b5 := chain b1 hb5
          replace kR := blk_up hb5 kR
          clear hb5 b1 kV kW kP
          obtain ⟨⟨r0, r1, r2, r3, r4, r5, r6, r7, r8, r9⟩, ⟨s0, s1, s2, s3, s4, s5, s6, s7, s8, s9⟩, lr⟩ := ten kR
          go_wp2
          (try simp only [Exit.inBlock, Exit.then]); refine bodyPost_ret (results_ct rfl _ _ _ 55 _ (0, 0) _ rfl (stored10 kR _ _ _ _ _ _ _ _ _ _) Try.underlying55 rfl (by kernel_rfl)) rfl ?_
          exact VOut.no (below10 b5 (by omega) _ _ _ _ _ _ _ _ _ _) rfl
        | some u =>
          rintro e w5 ⟨hb5, U6, g6, U7, g7, U8, g8, rfl, hu⟩
          have b5 := chain b1 hb5
          have lR := blk_lt kR
          replace kR := blk_up hb5 kR
          clear hb5 b1 kV kW kP
          have HU := Aside0.mk hu
          clear hu
          obtain ⟨⟨r0, r1, r2, r3, r4, r5, r6, r7, r8, r9⟩, ⟨s0, s1, s2, s3, s4, s5, s6, s7, s8, s9⟩, lr⟩ := ten kR
          go_wp2
          (try simp only [Exit.inBlock, Exit.then]); refine bodyPost_ret (results_ct rfl _ _ _ 55 _ (0, 0) _ rfl (stored10 kR _ _ _ _ _ _ _ _ _ _) Try.underlying55 rfl (by kernel_rfl)) rfl ?_
          exact VOut.yes (below10 b5 (by omega) _ _ _ _ _ _ _ _ _ _) rfl ((HU.out.stored (fun k hk => by rcases hk with hk | hk; (have := HOK.out k hk; omega); omega) _ _ _ _ _ _ _ _ _ _).mono (fun k hk => by rcases hk with hk | hk; exact .inl hk; exact .inr (by omega)))
      by_cases h7 : p.f0 = 7
      · have HN := Aside0.mk (Q7.out hh h7)
        have h91 : decide (p.f0 = 9) = false := decide_eq_false (by first | exact h9 | omega)
        have h92 : (p.f0 == 9) = false := by first | simpa using h9 | (simp; omega)
        have h93 : (p.f0 != 9) = true := by first | simpa using h9 | (simp; omega)
        have h71 : decide (p.f0 = 7) = true := decide_eq_true (by first | exact h7 | omega)
        have h72 : (p.f0 == 7) = true := by first | simpa using h7 | (simp; omega)
        have h73 : (p.f0 != 7) = false := by first | simpa using h7 | (simp; omega)
        clear hh QN Q9 Q7 Q8 Q0 h9 h7
        go_wp2_with fail
        refine (function_c lo up inn v p HOK1.out HV1.out HP1.out).mono ?_
        clear y0 y1 y2 lw v0 v1 v2 v3 v4 v5 v6 v7 v8 v9 lv p0 p1 p2 p3 p4 lp
        have HN' := HN.out
        clear HN
        rw [← HN']
        clear HN'
        cases o with
        | none =>
          rintro e w5 ⟨hb5, rfl⟩
          have b5 := chain b1 hb5
          replace kR := blk_up hb5 kR
          clear hb5 b1 kV kW kP
          obtain ⟨⟨r0, r1, r2, r3, r4, r5, r6, r7, r8, r9⟩, ⟨s0, s1, s2, s3, s4, s5, s6, s7, s8, s9⟩, lr⟩ := ten kR
          go_wp2
          (try simp only [Exit.inBlock, Exit.then]); refine bodyPost_ret (results_ct rfl _ _ _ 55 _ (0, 0) _ rfl (stored10 kR _ _ _ _ _ _ _ _ _ _) Try.underlying55 rfl (by kernel_rfl)) rfl ?_
          exact VOut.no (below10 b5 (by omega) _ _ _ _ _ _ _ _ _ _) rfl
        | some u =>
          rintro e w5 ⟨hb5, U6, g6, U7, g7, U8, g8, rfl, hu⟩
          have b5 := chain b1 hb5
          have lR := blk_lt kR
          replace kR := blk_up hb5 kR
          clear hb5 b1 kV kW kP
          have HU := Aside0.mk hu
          clear hu
          obtain ⟨⟨r0, r1, r2, r3, r4, r5, r6, r7, r8, r9⟩, ⟨s0, s1, s2, s3, s4, s5, s6, s7, s8, s9⟩, lr⟩ := ten kR
          go_wp2
          (try simp only [Exit.inBlock, Exit.then]); refine bodyPost_ret (results_ct rfl _ _ _ 55 _ (0, 0) _ rfl (stored10 kR _ _ _ _ _ _ _ _ _ _) Try.underlying55 rfl (by kernel_rfl)) rfl ?_
          exact VOut.yes (below10 b5 (by omega) _ _ _ _ _ _ _ _ _ _) rfl ((HU.out.stored (fun k hk => by rcases hk with hk | hk; (have := HOK.out k hk; omega); omega) _ _ _ _ _ _ _ _ _ _).mono (fun k hk => by rcases hk with hk | hk; exact .inl hk; exact .inr (by omega)))
      by_cases h8 : p.f0 = 8
      · have HN := Aside0.mk (Q8.out hh h8)
        have HR := Aside0.mk (record_c lo up inn (turnV lo up inn n) v p OV.out OP.out (HS.out h8) HOK1.out (OR.out.len h8) HV1.out HP1.out)
        have h91 : decide (p.f0 = 9) = false := decide_eq_false (by first | exact h9 | omega)
        have h92 : (p.f0 == 9) = false := by first | simpa using h9 | (simp; omega)
        have h93 : (p.f0 != 9) = true := by first | simpa using h9 | (simp; omega)
        have h71 : decide (p.f0 = 7) = false := decide_eq_false (by first | exact h7 | omega)
        have h72 : (p.f0 == 7) = false := by first | simpa using h7 | (simp; omega)
        have h73 : (p.f0 != 7) = true := by first | simpa using h7 | (simp; omega)
        have h81 : decide (p.f0 = 8) = true := decide_eq_true (by first | exact h8 | omega)
        have h82 : (p.f0 == 8) = true := by first | simpa using h8 | (simp; omega)
        have h83 : (p.f0 != 8) = false := by first | simpa using h8 | (simp; omega)
        clear hh QN Q9 Q7 Q8 Q0 h9 h7 h8
        go_wp2_with fail
        refine (HR.out).mono ?_
        clear y0 y1 y2 lw v0 v1 v2 v3 v4 v5 v6 v7 v8 v9 lv p0 p1 p2 p3 p4 lp
        have HN' := HN.out
        clear HN
        rw [← HN']
        clear HN'
        cases o with
        | none =>
          rintro e w5 ⟨hb5, rfl⟩
          have b5 := chain b1 hb5
          replace kR := blk_up hb5 kR
          clear hb5 b1 kV kW kP
          obtain ⟨⟨r0, r1, r2, r3, r4, r5, r6, r7, r8, r9⟩, ⟨s0, s1, s2, s3, s4, s5, s6, s7, s8, s9⟩, lr⟩ := ten kR
          go_wp2
          (try simp only [Exit.inBlock, Exit.then]); refine bodyPost_ret (results_ct rfl _ _ _ 55 _ (0, 0) _ rfl (stored10 kR _ _ _ _ _ _ _ _ _ _) Try.underlying55 rfl (by kernel_rfl)) rfl ?_
          exact VOut.no (below10 b5 (by omega) _ _ _ _ _ _ _ _ _ _) rfl
        | some u =>
          rintro e w5 ⟨hb5, U6, g6, U7, g7, U8, g8, rfl, hu⟩
          have b5 := chain b1 hb5
          have lR := blk_lt kR
          replace kR := blk_up hb5 kR
          clear hb5 b1 kV kW kP
          have HU := Aside0.mk hu
          clear hu
          obtain ⟨⟨r0, r1, r2, r3, r4, r5, r6, r7, r8, r9⟩, ⟨s0, s1, s2, s3, s4, s5, s6, s7, s8, s9⟩, lr⟩ := ten kR
          go_wp2
          (try simp only [Exit.inBlock, Exit.then]); refine bodyPost_ret (results_ct rfl _ _ _ 55 _ (0, 0) _ rfl (stored10 kR _ _ _ _ _ _ _ _ _ _) Try.underlying55 rfl (by kernel_rfl)) rfl ?_
          exact VOut.yes (below10 b5 (by omega) _ _ _ _ _ _ _ _ _ _) rfl ((HU.out.stored (fun k hk => by rcases hk with hk | hk; (have := HOK.out k hk; omega); omega) _ _ _ _ _ _ _ _ _ _).mono (fun k hk => by rcases hk with hk | hk; exact .inl hk; exact .inr (by omega)))
      have HN := Aside0.mk (Q0.out hh h9 h7 h8)
      have h91 : decide (p.f0 = 9) = false := decide_eq_false (by first | exact h9 | omega)
      have h92 : (p.f0 == 9) = false := by first | simpa using h9 | (simp; omega)
      have h93 : (p.f0 != 9) = true := by first | simpa using h9 | (simp; omega)
      have h71 : decide (p.f0 = 7) = false := decide_eq_false (by first | exact h7 | omega)
      have h72 : (p.f0 == 7) = false := by first | simpa using h7 | (simp; omega)
      have h73 : (p.f0 != 7) = true := by first | simpa using h7 | (simp; omega)
      have h81 : decide (p.f0 = 8) = false := decide_eq_false (by first | exact h8 | omega)
      have h82 : (p.f0 == 8) = false := by first | simpa using h8 | (simp; omega)
      have h83 : (p.f0 != 8) = true := by first | simpa using h8 | (simp; omega)
      clear hh QN Q9 Q7 Q8 Q0
      obtain ⟨⟨r0, r1, r2, r3, r4, r5, r6, r7, r8, r9⟩, ⟨s0, s1, s2, s3, s4, s5, s6, s7, s8, s9⟩, lr⟩ := ten kR
      go_wp2
      (try simp only [Exit.inBlock, Exit.then]); refine bodyPost_ret (results_ct rfl _ _ _ 55 _ (0, 0) _ rfl (stored10 kR _ _ _ _ _ _ _ _ _ _) Try.underlying55 rfl (by kernel_rfl)) rfl ?_
      exact VOut.no (below10 b1 (by omega) _ _ _ _ _ _ _ _ _ _) HN.out
end Go.Proofs.Ytnfnhjhnfdkinaa.PConvBack

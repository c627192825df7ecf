/-
  ConvBack: texts of this claim, put together by a program of this session. No conditions beyond what each lemma says.
-/
import Derived.Test.YtnfnhjhnfdkinaazConvBack20
namespace Go.Proofs.Ytnfnhjhnfdkinaa.PConvBack
open Go.RowKit Go.Proofs.YtnfnhjhnfdkinaaW.Mine Go.Proofs.YtnfnhjhnfdkinaaW.PrintWords Go.Proofs.YtnfnhjhnfdkinaaW.PrintLast Go.Proofs.YtnfnhjhnfdkinaaW.PrintMore
attribute [local go_sem] max2_int min2_int max_two min_two max_three min_three max_four min_four
set_option linter.unusedVariables false
set_option linter.unusedSimpArgs false
/-- Along records: so few labels that as many values may be. -/
inductive Okr : Ty → Prop
  | mk (x : Ty) (h : x.f0 = 8 → x.f3.length * 144 ≤ 140737488351232) (hs : x.f0 = 8 → ∀ y, y ∈ x.f4 → Okr y) : Okr x
theorem Okr.len {x : Ty} (h : Okr x) (h8 : x.f0 = 8) : x.f3.length * 144 ≤ 140737488351232 := by cases h with | mk _ a b => exact a h8
theorem Okr.all {x : Ty} (h : Okr x) (h8 : x.f0 = 8) : ∀ y, y ∈ x.f4 → Okr y := by cases h with | mk _ a b => exact b h8
theorem Sm.of_okt : ∀ (n : Nat) (x : Ty), SizeOf.sizeOf x < n → Okt x → Sm x
  | 0, _, h, _ => absurd h (Nat.not_lt_zero _)
  | n + 1, x, h, o => .mk x o.l80 (fun y hy => Sm.of_okt n y (by have := size_args x y hy; omega) (o.all y hy))
theorem okt_sm {x : Ty} (o : Okt x) : Sm x := Sm.of_okt _ x (Nat.lt_succ_self _) o
theorem turnV_no {lo up : Int} {inn : Bool} {n : Nat} {v : Vl} {p : Ty} (h : hasB lo up p = false) : turnV lo up inn (n + 1) v p = some v := by simp only [turnV, h]; rfl
theorem turnV_seal {lo up : Int} {inn : Bool} {n : Nat} {v : Vl} {p : Ty} (h : hasB lo up p = true) (h9 : p.f0 = 9) : turnV lo up inn (n + 1) v p = sealV inn v p.f1 := by simp only [turnV, h, h9, if_true]
theorem turnV_fun {lo up : Int} {inn : Bool} {n : Nat} {v : Vl} {p : Ty} (h : hasB lo up p = true) (h9 : p.f0 = 7) : turnV lo up inn (n + 1) v p = functionV lo up inn v p := by simp only [turnV, h, if_true]; rw [if_neg (by omega), if_pos h9]
theorem turnV_rec {lo up : Int} {inn : Bool} {n : Nat} {v : Vl} {p : Ty} (h : hasB lo up p = true) (h9 : p.f0 = 8) : turnV lo up inn (n + 1) v p = recordV (turnV lo up inn n) v p := by simp only [turnV, h, if_true]; rw [if_neg (by omega), if_neg (by omega), if_pos h9]
theorem turnV_none {lo up : Int} {inn : Bool} {n : Nat} {v : Vl} {p : Ty} (h : hasB lo up p = true) (h9 : ¬ p.f0 = 9) (h7 : ¬ p.f0 = 7) (h8 : ¬ p.f0 = 8) : turnV lo up inn (n + 1) v p = none := by simp only [turnV, h, if_true]; rw [if_neg h9, if_neg h7, if_neg h8]
set_option maxHeartbeats 16000000 in
set_option maxRecDepth 100000 in
theorem turn_c (lo up : Int) (inn : Bool) : ∀ (n : Nat) (p : Ty), SizeOf.sizeOf p < n → Okt p → Okr p → TurnC lo up inn (turnV lo up inn n) p
  | 0, _, h, _, _ => absurd h (Nat.not_lt_zero _)
  | n + 1, p, h, op, orr => fun v ov ok A6 c6 A7 c7 A8 c8 A3 c3 A4 c4 w hok hv hp => by
    have hs : p.f0 = 8 → ∀ y, y ∈ p.f4 → TurnC lo up inn (turnV lo up inn n) y := fun h8 y hy => turn_c lo up inn n y (by have := size_args p y hy; omega) (op.all y hy) (orr.all h8 y hy)
    have HS := Aside0.mk hs
    have OP := Aside0.mk op
    have OR := Aside0.mk orr
    have OV := Aside0.mk ov
    have HOK := Aside0.mk hok
    have QN := Aside0.mk (turnV_no (inn := inn) (n := n) (v := v) (lo := lo) (up := up) (p := p))
    have Q9 := Aside0.mk (turnV_seal (inn := inn) (n := n) (v := v) (lo := lo) (up := up) (p := p))
    have Q7 := Aside0.mk (turnV_fun (inn := inn) (n := n) (v := v) (lo := lo) (up := up) (p := p))
    have Q8 := Aside0.mk (turnV_rec (inn := inn) (n := n) (v := v) (lo := lo) (up := up) (p := p))
    have Q0 := Aside0.mk (turnV_none (inn := inn) (n := n) (v := v) (lo := lo) (up := up) (p := p))
    generalize turnV lo up inn (n + 1) v p = o at *
    clear hs h op orr ov hok
    obtain ⟨⟨kW, kV, kP, kR⟩, b0, sz0⟩ := fourb w (wcells lo up inn) (vcells v A6 c6 A7 c7 A8 c8) (tarr p A3 c3 A4 c4) zcells 92 55 25 55
    have HV := Aside0.mk hv
    have HP := Aside0.mk hp
    clear hv hp sz0
    obtain ⟨⟨y0, y1, y2⟩, _, lw⟩ := three kW
    obtain ⟨⟨v0, v1, v2, v3, v4, v5, v6, v7, v8, v9⟩, _, lv⟩ := ten kV
    obtain ⟨⟨p0, p1, p2, p3, p4⟩, _, lp⟩ := five kP
    go_enter Try.func81, Try.ntmps81
    go_wp2_with fail
    refine (has_c lo up inn _ p (Nat.lt_succ_self _) (okt_sm OP.out) A3 c3 A4 c4 _ (HP.out.below b0).rt).mono ?_
    rintro e w1 ⟨rfl, hb⟩
    clear y0 y1 y2 lw v0 v1 v2 v3 v4 v5 v6 v7 v8 v9 lv p0 p1 p2 p3 p4 lp
    have b1 := chain b0 hb
    replace kW := blk_up hb kW
    replace kV := blk_up hb kV
    replace kP := blk_up hb kP
    replace kR := blk_up hb kR
    clear hb b0
    have hok1 : ∀ k, ok k → k < w1.heap.size := fun k hk => Nat.lt_of_lt_of_le (HOK.out k hk) b1.size
    have HV1 := Aside0.mk (HV.out.below b1)
    have HP1 := Aside0.mk (HP.out.below b1)
    have HOK1 := Aside0.mk hok1
    have szb := b1.size
    clear hok1 HV HP
    obtain ⟨⟨y0, y1, y2⟩, _, lw⟩ := three kW
    obtain ⟨⟨v0, v1, v2, v3, v4, v5, v6, v7, v8, v9⟩, _, lv⟩ := ten kV
    obtain ⟨⟨p0, p1, p2, p3, p4⟩, _, lp⟩ := five kP
    cases hh : hasB lo up p with
    | false =>
      have HN := Aside0.mk (QN.out hh)
      clear hh QN Q9 Q7 Q8 Q0
      obtain ⟨⟨r0, r1, r2, r3, r4, r5, r6, r7, r8, r9⟩, ⟨s0, s1, s2, s3, s4, s5, s6, s7, s8, s9⟩, lr⟩ := ten kR
      go_wp2
      (try simp only [Exit.inBlock, Exit.then]); refine bodyPost_ret (results_ct rfl _ _ _ 55 _ (0, 0) _ rfl (stored10 kR _ _ _ _ _ _ _ _ _ _) Try.underlying55 rfl (by kernel_rfl)) rfl ?_
      exact VOut.yes (below10 b1 (by omega) _ _ _ _ _ _ _ _ _ _) HN.out ((HV1.out.stored (fun k hk => by have := HOK.out k hk; omega) _ _ _ _ _ _ _ _ _ _).mono (fun k hk => .inl hk))
    | true =>
      by_cases h9 : p.f0 = 9
      · have HN := Aside0.mk (Q9.out hh h9)
        have h91 : decide (p.f0 = 9) = true := decide_eq_true (by first | exact h9 | omega)
        have h92 : (p.f0 == 9) = true := by first | simpa using h9 | (simp; omega)
        have h93 : (p.f0 != 9) = false := by first | simpa using h9 | (simp; omega)
        clear hh QN Q9 Q7 Q8 Q0 h9
        go_wp2_with fail
        refine (seal_c lo up inn v p.f1 HOK1.out HV1.out).mono ?_
        clear y0 y1 y2 lw v0 v1 v2 v3 v4 v5 v6 v7 v8 v9 lv p0 p1 p2 p3 p4 lp
        have HN' := HN.out
        clear HN
        rw [← HN']
        clear HN'
        cases o with
        | none =>
          rintro e w5 ⟨hb5, rfl⟩
          have b5 := chain b1 hb5
          replace kR := blk_up hb5 kR
          clear hb5 b1 kV kW kP
          obtain ⟨⟨r0, r1, r2, r3, r4, r5, r6, r7, r8, r9⟩, ⟨s0, s1, s2, s3, s4, s5, s6, s7, s8, s9⟩, lr⟩ := ten kR
          go_wp2
          (try simp only [Exit.inBlock, Exit.then]); refine bodyPost_ret (results_ct rfl _ _ _ 55 _ (0, 0) _ rfl (stored10 kR _ _ _ _ _ _ _ _ _ _) Try.underlying55 rfl (by kernel_rfl)) rfl ?_
          exact VOut.no (below10 b5 (by omega) _ _ _ _ _ _ _ _ _ _) rfl
        | some u =>
          rintro e w5 ⟨hb5, U6, g6, U7, g7, U8, g8, rfl, hu⟩
          have b5 := chain b1 hb5
          have lR := blk_lt kR
          replace kR := blk_up hb5 kR
          clear hb5 b1 kV kW kP
          have HU := Aside0.mk hu
          clear hu
          obtain ⟨⟨r0, r1, r2, r3, r4, r5, r6, r7, r8, r9⟩, ⟨s0, s1, s2, s3, s4, s5, s6, s7, s8, s9⟩, lr⟩ := ten kR
          go_wp2
          (try simp only [Exit.inBlock, Exit.then]); refine bodyPost_ret (results_ct rfl _ _ _ 55 _ (0, 0) _ rfl (stored10 kR _ _ _ _ _ _ _ _ _ _) Try.underlying55 rfl (by kernel_rfl)) rfl ?_
          exact VOut.yes (below10 b5 (by omega) _ _ _ _ _ _ _ _ _ _) rfl ((HU.out.stored (fun k hk => by rcases hk with hk | hk; (have := HOK.out k hk; omega); omega) _ _ _ _ _ _ _ _ _ _).mono (fun k hk => by rcases hk with hk | hk; exact .inl hk; exact .inr (by omega)))
      by_cases h7 : p.f0 = 7
      · have HN := Aside0.mk (Q7.out hh h7)
        have h91 : decide (p.f0 = 9) = false := decide_eq_false (by first | exact h9 | omega)
        have h92 : (p.f0 == 9) = false := by first | simpa using h9 | (simp; omega)
        have h93 : (p.f0 != 9) = true := by first | simpa using h9 | (simp; omega)
        have h71 : decide (p.f0 = 7) = true := decide_eq_true (by first | exact h7 | omega)
        have h72 : (p.f0 == 7) = true := by first | simpa using h7 | (simp; omega)
        have h73 : (p.f0 != 7) = false := by first | simpa using h7 | (simp; omega)
        clear hh QN Q9 Q7 Q8 Q0 h9 h7
        go_wp2_with fail
        refine (function_c lo up inn v p HOK1.out HV1.out HP1.out).mono ?_
        clear y0 y1 y2 lw v0 v1 v2 v3 v4 v5 v6 v7 v8 v9 lv p0 p1 p2 p3 p4 lp
        have HN' := HN.out
        clear HN
        rw [← HN']
        clear HN'
        cases o with
        | none =>
          rintro e w5 ⟨hb5, rfl⟩
          have b5 := chain b1 hb5
          replace kR := blk_up hb5 kR
          clear hb5 b1 kV kW kP
          obtain ⟨⟨r0, r1, r2, r3, r4, r5, r6, r7, r8, r9⟩, ⟨s0, s1, s2, s3, s4, s5, s6, s7, s8, s9⟩, lr⟩ := ten kR
          go_wp2
          (try simp only [Exit.inBlock, Exit.then]); refine bodyPost_ret (results_ct rfl _ _ _ 55 _ (0, 0) _ rfl (stored10 kR _ _ _ _ _ _ _ _ _ _) Try.underlying55 rfl (by kernel_rfl)) rfl ?_
          exact VOut.no (below10 b5 (by omega) _ _ _ _ _ _ _ _ _ _) rfl
        | some u =>
          rintro e w5 ⟨hb5, U6, g6, U7, g7, U8, g8, rfl, hu⟩
          have b5 := chain b1 hb5
          have lR := blk_lt kR
          replace kR := blk_up hb5 kR
          clear hb5 b1 kV kW kP
          have HU := Aside0.mk hu
          clear hu
          obtain ⟨⟨r0, r1, r2, r3, r4, r5, r6, r7, r8, r9⟩, ⟨s0, s1, s2, s3, s4, s5, s6, s7, s8, s9⟩, lr⟩ := ten kR
          go_wp2
          (try simp only [Exit.inBlock, Exit.then]); refine bodyPost_ret (results_ct rfl _ _ _ 55 _ (0, 0) _ rfl (stored10 kR _ _ _ _ _ _ _ _ _ _) Try.underlying55 rfl (by kernel_rfl)) rfl ?_
          exact VOut.yes (below10 b5 (by omega) _ _ _ _ _ _ _ _ _ _) rfl ((HU.out.stored (fun k hk => by rcases hk with hk | hk; (have := HOK.out k hk; omega); omega) _ _ _ _ _ _ _ _ _ _).mono (fun k hk => by rcases hk with hk | hk; exact .inl hk; exact .inr (by omega)))
      by_cases h8 : p.f0 = 8
      · have HN := Aside0.mk (Q8.out hh h8)
        have HR := Aside0.mk (record_c lo up inn (turnV lo up inn n) v p OV.out OP.out (HS.out h8) HOK1.out (OR.out.len h8) HV1.out HP1.out)
        have h91 : decide (p.f0 = 9) = false := decide_eq_false (by first | exact h9 | omega)
        have h92 : (p.f0 == 9) = false := by first | simpa using h9 | (simp; omega)
        have h93 : (p.f0 != 9) = true := by first | simpa using h9 | (simp; omega)
        have h71 : decide (p.f0 = 7) = false := decide_eq_false (by first | exact h7 | omega)
        have h72 : (p.f0 == 7) = false := by first | simpa using h7 | (simp; omega)
        have h73 : (p.f0 != 7) = true := by first | simpa using h7 | (simp; omega)
        have h81 : decide (p.f0 = 8) = true := decide_eq_true (by first | exact h8 | omega)
        have h82 : (p.f0 == 8) = true := by first | simpa using h8 | (simp; omega)
        have h83 : (p.f0 != 8) = false := by first | simpa using h8 | (simp; omega)
        clear hh QN Q9 Q7 Q8 Q0 h9 h7 h8
        go_wp2_with fail
        refine (HR.out).mono ?_
        clear y0 y1 y2 lw v0 v1 v2 v3 v4 v5 v6 v7 v8 v9 lv p0 p1 p2 p3 p4 lp
        have HN' := HN.out
        clear HN
        rw [← HN']
        clear HN'
        cases o with
        | none =>
          rintro e w5 ⟨hb5, rfl⟩
          have b5 := chain b1 hb5
          replace kR := blk_up hb5 kR
          clear hb5 b1 kV kW kP
          obtain ⟨⟨r0, r1, r2, r3, r4, r5, r6, r7, r8, r9⟩, ⟨s0, s1, s2, s3, s4, s5, s6, s7, s8, s9⟩, lr⟩ := ten kR
          go_wp2
          (try simp only [Exit.inBlock, Exit.then]); refine bodyPost_ret (results_ct rfl _ _ _ 55 _ (0, 0) _ rfl (stored10 kR _ _ _ _ _ _ _ _ _ _) Try.underlying55 rfl (by kernel_rfl)) rfl ?_
          exact VOut.no (below10 b5 (by omega) _ _ _ _ _ _ _ _ _ _) rfl
        | some u =>
          rintro e w5 ⟨hb5, U6, g6, U7, g7, U8, g8, rfl, hu⟩
          have b5 := chain b1 hb5
          have lR := blk_lt kR
          replace kR := blk_up hb5 kR
          clear hb5 b1 kV kW kP
          have HU := Aside0.mk hu
          clear hu
          obtain ⟨⟨r0, r1, r2, r3, r4, r5, r6, r7, r8, r9⟩, ⟨s0, s1, s2, s3, s4, s5, s6, s7, s8, s9⟩, lr⟩ := ten kR
          go_wp2
          (try simp only [Exit.inBlock, Exit.then]); refine bodyPost_ret (results_ct rfl _ _ _ 55 _ (0, 0) _ rfl (stored10 kR _ _ _ _ _ _ _ _ _ _) Try.underlying55 rfl (by kernel_rfl)) rfl ?_
          exact VOut.yes (below10 b5 (by omega) _ _ _ _ _ _ _ _ _ _) rfl ((HU.out.stored (fun k hk => by rcases hk with hk | hk; (have := HOK.out k hk; omega); omega) _ _ _ _ _ _ _ _ _ _).mono (fun k hk => by rcases hk with hk | hk; exact .inl hk; exact .inr (by omega)))
      have HN := Aside0.mk (Q0.out hh h9 h7 h8)
      have h91 : decide (p.f0 = 9) = false := decide_eq_false (by first | exact h9 | omega)
      have h92 : (p.f0 == 9) = false := by first | simpa using h9 | (simp; omega)
      have h93 : (p.f0 != 9) = true := by first | simpa using h9 | (simp; omega)
      have h71 : decide (p.f0 = 7) = false := decide_eq_false (by first | exact h7 | omega)
      have h72 : (p.f0 == 7) = false := by first | simpa using h7 | (simp; omega)
      have h73 : (p.f0 != 7) = true := by first | simpa using h7 | (simp; omega)
      have h81 : decide (p.f0 = 8) = false := decide_eq_false (by first | exact h8 | omega)
      have h82 : (p.f0 == 8) = false := by first | simpa using h8 | (simp; omega)
      have h83 : (p.f0 != 8) = true := by first | simpa using h8 | (simp; omega)
      clear hh QN Q9 Q7 Q8 Q0
      obtain ⟨⟨r0, r1, r2, r3, r4, r5, r6, r7, r8, r9⟩, ⟨s0, s1, s2, s3, s4, s5, s6, s7, s8, s9⟩, lr⟩ := ten kR
      go_wp2
      (try simp only [Exit.inBlock, Exit.then]); refine bodyPost_ret (results_ct rfl _ _ _ 55 _ (0, 0) _ rfl (stored10 kR _ _ _ _ _ _ _ _ _ _) Try.underlying55 rfl (by kernel_rfl)) rfl ?_
      exact VOut.no (below10 b1 (by omega) _ _ _ _ _ _ _ _ _ _) HN.out
end Go.Proofs.Ytnfnhjhnfdkinaa.PConvBack
namespace Go.Proofs.Ytnfnhjhnfdkinaa.PConvBack
open Go.RowKit Go.Proofs.YtnfnhjhnfdkinaaW.Mine Go.Proofs.YtnfnhjhnfdkinaaW.PrintWords Go.Proofs.YtnfnhjhnfdkinaaW.PrintLast Go.Proofs.YtnfnhjhnfdkinaaW.PrintMore
attribute [local go_sem] max2_int min2_int max_two min_two max_three min_three max_four min_four
set_option linter.unusedVariables false
set_option linter.unusedSimpArgs false
noncomputable def doV (lo up : Int) (inn : Bool) (v : Vl) (p : Ty) : Option Vl := turnV lo up inn (SizeOf.sizeOf p + 1) v p
set_option maxHeartbeats 16000000 in
set_option maxRecDepth 100000 in
theorem do_c (lo up : Int) (inn : Bool) (v : Vl) (p : Ty) (ov : Okv v) (op : Okt p) (orr : Okr p) {ok : Nat → Prop} {A6 A7 A8 A3 A4 : Option Addr} {c6 c7 c8 c3 c4 : Nat} {w : World} (hok : ∀ k, ok k → k < w.heap.size) (hv : FV w ok v A6 c6 A7 c7 A8 c8) (hp : FT w ok p A3 c3 A4 c4) :
    Calls Try.prog 44 #[vv v A6 c6 A7 c7 A8 c8, tv p A3 c3 A4 c4, .int .i64 lo, .int .i64 up, .bool inn] w (VOut w (fun k => ok k ∨ w.heap.size ≤ k) (doV lo up inn v p)) := by
  obtain ⟨⟨kV, kP, kR⟩, b0, sz0⟩ := threeb w (vcells v A6 c6 A7 c7 A8 c8) (tarr p A3 c3 A4 c4) zcells 55 25 55
  obtain ⟨⟨v0, v1, v2, v3, v4, v5, v6, v7, v8, v9⟩, _, lv⟩ := ten kV
  obtain ⟨⟨p0, p1, p2, p3, p4⟩, _, lp⟩ := five kP
  have HT := Aside0.mk (turn_c lo up inn _ p (Nat.lt_succ_self _) op orr v ov ok A6 c6 A7 c7 A8 c8 A3 c3 A4 c4 _ (fun k hk => Nat.lt_of_lt_of_le (hok k hk) b0.size) (hv.below b0) (hp.below b0))
  unfold doV
  generalize turnV lo up inn (SizeOf.sizeOf p + 1) v p = o at *
  have HOK := Aside0.mk hok
  have szb := b0.size
  clear hok hv hp ov op orr sz0
  go_enter Try.func44, Try.ntmps44
  go_wp2_with fail
  refine HT.out.mono ?_
  clear v0 v1 v2 v3 v4 v5 v6 v7 v8 v9 lv p0 p1 p2 p3 p4 lp HT
  cases o with
  | none =>
    rintro e w5 ⟨hb5, rfl⟩
    have b5 := chain b0 hb5
    replace kR := blk_up hb5 kR
    clear hb5 b0 kV kP
    obtain ⟨⟨r0, r1, r2, r3, r4, r5, r6, r7, r8, r9⟩, ⟨s0, s1, s2, s3, s4, s5, s6, s7, s8, s9⟩, lr⟩ := ten kR
    go_wp2
    (try simp only [Exit.inBlock, Exit.then]); refine bodyPost_ret (results_ct rfl _ _ _ 55 _ (0, 0) _ rfl (stored10 kR _ _ _ _ _ _ _ _ _ _) Try.underlying55 rfl (by kernel_rfl)) rfl ?_
    exact VOut.no (below10 b5 (by omega) _ _ _ _ _ _ _ _ _ _) rfl
  | some u =>
    rintro e w5 ⟨hb5, U6, g6, U7, g7, U8, g8, rfl, hu⟩
    have b5 := chain b0 hb5
    have lR := blk_lt kR
    replace kR := blk_up hb5 kR
    clear hb5 b0 kV kP
    have HU := Aside0.mk hu
    clear hu
    obtain ⟨⟨r0, r1, r2, r3, r4, r5, r6, r7, r8, r9⟩, ⟨s0, s1, s2, s3, s4, s5, s6, s7, s8, s9⟩, lr⟩ := ten kR
    go_wp2
    (try simp only [Exit.inBlock, Exit.then]); refine bodyPost_ret (results_ct rfl _ _ _ 55 _ (0, 0) _ rfl (stored10 kR _ _ _ _ _ _ _ _ _ _) Try.underlying55 rfl (by kernel_rfl)) rfl ?_
    exact VOut.yes (below10 b5 (by omega) _ _ _ _ _ _ _ _ _ _) rfl ((HU.out.stored (fun k hk => by rcases hk with hk | hk; (have := HOK.out k hk; omega); omega) _ _ _ _ _ _ _ _ _ _).mono (fun k hk => by rcases hk with hk | hk; exact .inl hk; exact .inr (by omega)))
set_option maxHeartbeats 4000000 in
set_option maxRecDepth 100000 in
theorem chas_c (lo up : Int) (p : Ty) (op : Okt p) {A3 A4 : Option Addr} {c3 c4 : Nat} {w : World} (hp : RT w p A3 c3 A4 c4) :
    Calls Try.prog 78 #[tv p A3 c3 A4 c4, .int .i64 lo, .int .i64 up] w (BOut w (hasB lo up p)) := by
  have kP := blk_new w (.cells (tarr p A3 c3 A4 c4) 25)
  have b0 := below_alloc1 w (.cells (tarr p A3 c3 A4 c4) 25)
  obtain ⟨⟨p0, p1, p2, p3, p4⟩, _, lp⟩ := five kP
  go_enter Try.func78, Try.ntmps78
  go_wp2_with fail
  refine (has_c lo up false _ p (Nat.lt_succ_self _) (okt_sm op) A3 c3 A4 c4 _ (hp.below b0)).mono ?_
  rintro e w1 ⟨rfl, hb⟩
  go_wp2
  go_ret
  exact ⟨rfl, chain b0 hb⟩
end Go.Proofs.Ytnfnhjhnfdkinaa.PConvBack
namespace Go.Proofs.Ytnfnhjhnfdkinaa.PConvBack
open Go.RowKit Go.Proofs.YtnfnhjhnfdkinaaW.Mine Go.Proofs.YtnfnhjhnfdkinaaW.PrintWords Go.Proofs.YtnfnhjhnfdkinaaW.PrintLast Go.Proofs.YtnfnhjhnfdkinaaW.PrintMore
attribute [local go_sem] max2_int min2_int max_two min_two max_three min_three max_four min_four
set_option linter.unusedVariables false
set_option linter.unusedSimpArgs false
abbrev zSe : Se := z86
abbrev scells (x : Se) (A3 : Option Addr) (c3 : Nat) (A4 : Option Addr) (c4 : Nat) (A8 : Option Addr) (c8 : Nat) (A9 : Option Addr) (c9 : Nat) : Array Value := #[.int .i64 x.f0.f0, .int .i64 x.f0.f1, .string x.f0.f2, .slice A3 x.f0.f3.length c3, .slice A4 x.f0.f4.length c4, .int .i64 x.f1.f0, .int .i64 x.f1.f1, .string x.f1.f2, .slice A8 x.f1.f3.length c8, .slice A9 x.f1.f4.length c9, .string x.f2.f0, .int .i64 x.f2.f1]
abbrev sv (x : Se) (A3 : Option Addr) (c3 : Nat) (A4 : Option Addr) (c4 : Nat) (A8 : Option Addr) (c8 : Nat) (A9 : Option Addr) (c9 : Nat) : Value := .agg #[.int .i64 x.f0.f0, .int .i64 x.f0.f1, .string x.f0.f2, .slice A3 x.f0.f3.length c3, .slice A4 x.f0.f4.length c4, .int .i64 x.f1.f0, .int .i64 x.f1.f1, .string x.f1.f2, .slice A8 x.f1.f3.length c8, .slice A9 x.f1.f4.length c9, .string x.f2.f0, .int .i64 x.f2.f1]
abbrev zscells : Array Value := #[.int .i64 0, .int .i64 0, .string ⟨#[]⟩, .slice none 0 0, .slice none 0 0, .int .i64 0, .int .i64 0, .string ⟨#[]⟩, .slice none 0 0, .slice none 0 0, .string ⟨#[]⟩, .int .i64 0]
/-- A seal comes, or none. -/
def SeOut (l : List Se) (n : Int) (w : World) (e : Ending) (w' : World) : Prop := Below w.heap.size w w' ∧
  ((¬ (0 ≤ n ∧ n < (l.length : Int)) ∧ e = .returned (.tuple #[sv zSe none 0 none 0 none 0 none 0, .bool false])) ∨
   (∃ i : Nat, ∃ hi : i < l.length, n = (i : Int) ∧ ∃ A3 c3 A4 c4 A8 c8 A9 c9, e = .returned (.tuple #[sv l[i] A3 c3 A4 c4 A8 c8 A9 c9, .bool true]) ∧ RT w' l[i].f0 A3 c3 A4 c4))
theorem selem {w : World} {A : Option Addr} {l : List Se} (h : kSe.C w A l.length l) (i : Nat) (hi : i < l.length) : ∃ ad A3 c3 A4 c4 A8 c8 A9 c9, A = some ad ∧ RT w l[i].f0 A3 c3 A4 c4
    ∧ w.cell? (ad.add (i * 12)) = some (.int .i64 l[i].f0.f0)
    ∧ w.cell? ⟨(ad.add (i * 12)).block, (ad.add (i * 12)).off + 1, none⟩ = some (.int .i64 l[i].f0.f1)
    ∧ w.cell? ⟨(ad.add (i * 12)).block, (ad.add (i * 12)).off + 2, none⟩ = some (.string l[i].f0.f2)
    ∧ w.cell? ⟨(ad.add (i * 12)).block, (ad.add (i * 12)).off + 3, none⟩ = some (.slice A3 l[i].f0.f3.length c3)
    ∧ w.cell? ⟨(ad.add (i * 12)).block, (ad.add (i * 12)).off + 4, none⟩ = some (.slice A4 l[i].f0.f4.length c4)
    ∧ w.cell? ⟨(ad.add (i * 12)).block, (ad.add (i * 12)).off + 5, none⟩ = some (.int .i64 l[i].f1.f0)
    ∧ w.cell? ⟨(ad.add (i * 12)).block, (ad.add (i * 12)).off + 6, none⟩ = some (.int .i64 l[i].f1.f1)
    ∧ w.cell? ⟨(ad.add (i * 12)).block, (ad.add (i * 12)).off + 7, none⟩ = some (.string l[i].f1.f2)
    ∧ w.cell? ⟨(ad.add (i * 12)).block, (ad.add (i * 12)).off + 8, none⟩ = some (.slice A8 l[i].f1.f3.length c8)
    ∧ w.cell? ⟨(ad.add (i * 12)).block, (ad.add (i * 12)).off + 9, none⟩ = some (.slice A9 l[i].f1.f4.length c9)
    ∧ w.cell? ⟨(ad.add (i * 12)).block, (ad.add (i * 12)).off + 10, none⟩ = some (.string l[i].f2.f0)
    ∧ w.cell? ⟨(ad.add (i * 12)).block, (ad.add (i * 12)).off + 11, none⟩ = some (.int .i64 l[i].f2.f1)
    := by
  obtain ⟨ad, A3, c3, A4, c4, A8, c8, A9, c9, e, h0, h1, h2, h3, h4, h5, h6, h7, h8, h9, h10, h11, g3, r3, g4, r4, _⟩ := at_T86 h (i : Int) (by omega) (by omega)
  have q : rd_T86 l (i : Int) = l[i] := getD_at _ l i hi
  rw [q] at h0 h1 h2 h3 h4 h5 h6 h7 h8 h9 h10 h11 g3 r3 g4 r4
  rw [Int.toNat_natCast] at h0 h1 h2 h3 h4 h5 h6 h7 h8 h9 h10 h11
  exact ⟨ad, A3, c3, A4, c4, A8, c8, A9, c9, e, ⟨g3, r3, g4, r4⟩, h0, h1, h2, h3, h4, h5, h6, h7, h8, h9, h10, h11⟩
set_option maxHeartbeats 4000000 in
set_option maxRecDepth 100000 in
theorem find_c (l : List Se) (n : Int) {A : Option Addr} {c : Nat} {w : World} (hl : l.length ≤ 140737488351232) (h : kSe.C w A l.length l) :
    Calls Try.prog 97 #[.slice A l.length c, .int .i64 n] w (SeOut l n w) := by
  by_cases hr : 0 ≤ n ∧ n < (l.length : Int)
  · obtain ⟨i, rfl⟩ : ∃ i : Nat, n = (i : Int) := ⟨n.toNat, by omega⟩
    have hi : i < l.length := by omega
    have i0 : (0 : Int) ≤ (i : Int) := by omega
    have i1 : (i : Int) < (l.length : Int) := by omega
    have d1 : decide ((i : Int) < 0) = false := decide_eq_false (by omega)
    have d2 : decide ((l.length : Int) ≤ (i : Int)) = false := decide_eq_false (by omega)
    have d3 : decide (l.length ≤ i) = false := decide_eq_false (by omega)
    obtain ⟨ad, A3, c3, A4, c4, A8, c8, A9, c9, hA, ht, x0, x1, x2, x3, x4, x5, x6, x7, x8, x9, x10, x11⟩ := selem h i hi
    subst hA
    have b0 := below_alloc1 w (.cells (scells l[i] A3 c3 A4 c4 A8 c8 A9 c9) 86)
    have bZ := below_alloc1 w (.cells zscells 86)
    have kN := blk_new w (.cells (scells l[i] A3 c3 A4 c4 A8 c8 A9 c9) 86)
    replace x0 := cell_up bZ x0
    replace x1 := cell_up bZ x1
    replace x2 := cell_up bZ x2
    replace x3 := cell_up bZ x3
    replace x4 := cell_up bZ x4
    replace x5 := cell_up bZ x5
    replace x6 := cell_up bZ x6
    replace x7 := cell_up bZ x7
    replace x8 := cell_up bZ x8
    replace x9 := cell_up bZ x9
    replace x10 := cell_up bZ x10
    replace x11 := cell_up bZ x11
    have BN := Aside0.mk b0
    have KN := Aside0.mk kN
    have HT := Aside0.mk (ht.below b0)
    clear hr b0 bZ kN ht
    go_enter Try.func97, Try.ntmps97
    go_wp2
    (try simp only [Exit.inBlock, Exit.then]); refine bodyPost_ret (results_ct rfl _ _ _ 86 _ (0, 0) _ rfl KN.out Try.underlying86 rfl (by kernel_rfl)) rfl ?_
    exact ⟨BN.out, .inr ⟨i, hi, rfl, A3, c3, A4, c4, A8, c8, A9, c9, rfl, HT.out⟩⟩
  · have b0 := below_alloc1 w (.cells (scells zSe none 0 none 0 none 0 none 0) 86)
    have kN := blk_new w (.cells (scells zSe none 0 none 0 none 0 none 0) 86)
    have HR := Aside0.mk hr
    have BN := Aside0.mk b0
    have KN := Aside0.mk kN
    clear b0 kN
    by_cases hn : n < 0
    · have d1 : decide (n < 0) = true := decide_eq_true hn
      clear hr hn
      go_enter Try.func97, Try.ntmps97
      go_wp2
      (try simp only [Exit.inBlock, Exit.then]); refine bodyPost_ret (results_ct rfl _ _ _ 86 _ (0, 0) _ rfl KN.out Try.underlying86 rfl (by kernel_rfl)) rfl ?_
      exact ⟨BN.out, .inl ⟨HR.out, rfl⟩⟩
    · have d1 : decide (n < 0) = false := decide_eq_false hn
      have d2 : decide ((l.length : Int) ≤ n) = true := decide_eq_true (by omega)
      clear hr hn
      go_enter Try.func97, Try.ntmps97
      go_wp2
      (try simp only [Exit.inBlock, Exit.then]); refine bodyPost_ret (results_ct rfl _ _ _ 86 _ (0, 0) _ rfl KN.out Try.underlying86 rfl (by kernel_rfl)) rfl ?_
      exact ⟨BN.out, .inl ⟨HR.out, rfl⟩⟩
end Go.Proofs.Ytnfnhjhnfdkinaa.PConvBack

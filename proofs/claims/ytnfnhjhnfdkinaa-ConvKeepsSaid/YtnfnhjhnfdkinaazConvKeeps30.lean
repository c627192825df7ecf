/-
  ConvKeeps: texts of this claim, put together by a program of this session. No conditions beyond what each lemma says.
-/
import Derived.Test.YtnfnhjhnfdkinaazConvKeeps29
namespace Go.Proofs.Ytnfnhjhnfdkinaa.PConvBack
open Go.RowKit Go.Proofs.YtnfnhjhnfdkinaaW.Mine Go.Proofs.YtnfnhjhnfdkinaaW.PrintWords Go.Proofs.YtnfnhjhnfdkinaaW.PrintLast Go.Proofs.YtnfnhjhnfdkinaaW.PrintMore
attribute [local go_sem] max2_int min2_int max_two min_two max_three min_three max_four min_four
set_option linter.unusedVariables false
set_option linter.unusedSimpArgs false
noncomputable def doV (lo up : Int) (inn : Bool) (v : Vl) (p : Ty) : Option Vl := turnV lo up inn (SizeOf.sizeOf p + 1) v p
set_option maxHeartbeats 16000000 in
set_option maxRecDepth 100000 in
theorem do_c (lo up : Int) (inn : Bool) (v : Vl) (p : Ty) (ov : Okv v) (op : Okt p) (orr : Okr p) {ok : Nat → Prop} {A6 A7 A8 A3 A4 : Option Addr} {c6 c7 c8 c3 c4 : Nat} {w : World} (hok : ∀ k, ok k → k < w.heap.size) (hv : FV w ok v A6 c6 A7 c7 A8 c8) (hp : FT w ok p A3 c3 A4 c4) :
    Calls Try.prog 44 #[vv v A6 c6 A7 c7 A8 c8, tv p A3 c3 A4 c4, .int .i64 lo, .int .i64 up, .bool inn] w (VOut w (fun k => ok k ∨ w.heap.size ≤ k) (doV lo up inn v p)) := by
  obtain ⟨⟨kV, kP, kR⟩, b0, sz0⟩ := threeb w (vcells v A6 c6 A7 c7 A8 c8) (tarr p A3 c3 A4 c4) zcells 55 25 55
  obtain ⟨⟨v0, v1, v2, v3, v4, v5, v6, v7, v8, v9⟩, _, lv⟩ := ten kV
  obtain ⟨⟨p0, p1, p2, p3, p4⟩, _, lp⟩ := five kP
  have HT := Aside0.mk (turn_c lo up inn _ p (Nat.lt_succ_self _) op orr v ov ok A6 c6 A7 c7 A8 c8 A3 c3 A4 c4 _ (fun k hk => Nat.lt_of_lt_of_le (hok k hk) b0.size) (hv.below b0) (hp.below b0))
  unfold doV
  generalize turnV lo up inn (SizeOf.sizeOf p + 1) v p = o at *
  have HOK := Aside0.mk hok
  have szb := b0.size
  clear hok hv hp ov op orr sz0
  go_enter Try.func44, Try.ntmps44
  go_wp2_with fail
  refine HT.out.mono ?_
  clear v0 v1 v2 v3 v4 v5 v6 v7 v8 v9 lv p0 p1 p2 p3 p4 lp HT
  cases o with
  | none =>
    rintro e w5 ⟨hb5, rfl⟩
    have b5 := chain b0 hb5
    replace kR := blk_up hb5 kR
    clear hb5 b0 kV kP
    obtain ⟨⟨r0, r1, r2, r3, r4, r5, r6, r7, r8, r9⟩, ⟨s0, s1, s2, s3, s4, s5, s6, s7, s8, s9⟩, lr⟩ := ten kR
    go_wp2
    (try simp only [Exit.inBlock, Exit.then]); refine bodyPost_ret (results_ct rfl _ _ _ 55 _ (0, 0) _ rfl (stored10 kR _ _ _ _ _ _ _ _ _ _) Try.underlying55 rfl (by kernel_rfl)) rfl ?_
    exact VOut.no (below10 b5 (by omega) _ _ _ _ _ _ _ _ _ _) rfl
  | some u =>
    rintro e w5 ⟨hb5, U6, g6, U7, g7, U8, g8, rfl, hu⟩
    have b5 := chain b0 hb5
    have lR := blk_lt kR
    replace kR := blk_up hb5 kR
    clear hb5 b0 kV kP
    have HU := Aside0.mk hu
    clear hu
    obtain ⟨⟨r0, r1, r2, r3, r4, r5, r6, r7, r8, r9⟩, ⟨s0, s1, s2, s3, s4, s5, s6, s7, s8, s9⟩, lr⟩ := ten kR
    go_wp2
    (try simp only [Exit.inBlock, Exit.then]); refine bodyPost_ret (results_ct rfl _ _ _ 55 _ (0, 0) _ rfl (stored10 kR _ _ _ _ _ _ _ _ _ _) Try.underlying55 rfl (by kernel_rfl)) rfl ?_
    exact VOut.yes (below10 b5 (by omega) _ _ _ _ _ _ _ _ _ _) rfl ((HU.out.stored (fun k hk => by rcases hk with hk | hk; (have := HOK.out k hk; omega); omega) _ _ _ _ _ _ _ _ _ _).mono (fun k hk => by rcases hk with hk | hk; exact .inl hk; exact .inr (by omega)))
set_option maxHeartbeats 4000000 in
set_option maxRecDepth 100000 in
theorem chas_c (lo up : Int) (p : Ty) (op : Okt p) {A3 A4 : Option Addr} {c3 c4 : Nat} {w : World} (hp : RT w p A3 c3 A4 c4) :
    Calls Try.prog 78 #[tv p A3 c3 A4 c4, .int .i64 lo, .int .i64 up] w (BOut w (hasB lo up p)) := by
  have kP := blk_new w (.cells (tarr p A3 c3 A4 c4) 25)
  have b0 := below_alloc1 w (.cells (tarr p A3 c3 A4 c4) 25)
  obtain ⟨⟨p0, p1, p2, p3, p4⟩, _, lp⟩ := five kP
  go_enter Try.func78, Try.ntmps78
  go_wp2_with fail
  refine (has_c lo up false _ p (Nat.lt_succ_self _) (okt_sm op) A3 c3 A4 c4 _ (hp.below b0)).mono ?_
  rintro e w1 ⟨rfl, hb⟩
  go_wp2
  go_ret
  exact ⟨rfl, chain b0 hb⟩
end Go.Proofs.Ytnfnhjhnfdkinaa.PConvBack

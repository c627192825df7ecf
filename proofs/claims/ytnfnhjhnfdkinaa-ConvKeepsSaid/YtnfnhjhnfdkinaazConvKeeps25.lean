/-
  ConvKeeps: texts of this claim, put together by a program of this session. No conditions beyond what each lemma says.
-/
import Derived.Test.YtnfnhjhnfdkinaazConvKeeps17
import Derived.Test.YtnfnhjhnfdkinaazConvKeeps24
namespace Go.Proofs.Ytnfnhjhnfdkinaa.PConvBack
open Go.RowKit Go.Proofs.YtnfnhjhnfdkinaaW.Mine Go.Proofs.YtnfnhjhnfdkinaaW.PrintWords Go.Proofs.YtnfnhjhnfdkinaaW.PrintLast Go.Proofs.YtnfnhjhnfdkinaaW.PrintMore
attribute [local go_sem] max2_int min2_int max_two min_two max_three min_three max_four min_four
set_option linter.unusedVariables false
set_option linter.unusedSimpArgs false
/-- The first place of a text; none: -1. -/
def pix (l : List ByteArray) (s : ByteArray) : Int := if l.findIdx (fun b => eqText b s) < l.length then ((l.findIdx (fun b => eqText b s) : Nat) : Int) else -1
theorem pix_ge (l : List ByteArray) (s : ByteArray) : -1 ≤ pix l s := by unfold pix; split <;> omega
theorem pix_lt (l : List ByteArray) (s : ByteArray) : pix l s < l.length := by unfold pix; split <;> omega
theorem pix_at {m : List ByteArray} {s : ByteArray} {i : Nat} (hi : i < m.length) (h : eqText m[i] s = true) (hj : ∀ j (hj : j < m.length), j < i → eqText m[j] s = false) : pix m s = (i : Int) := by
  have e : m.findIdx (fun b => eqText b s) = i := (List.findIdx_eq hi).2 ⟨h, fun j hji => hj j (by omega) hji⟩
  unfold pix
  rw [e, if_pos hi]
theorem pix_none {m : List ByteArray} {s : ByteArray} (h : ∀ j (hj : j < m.length), eqText m[j] s = false) : pix m s = -1 := by
  have e : m.findIdx (fun b => eqText b s) = m.length := List.findIdx_eq_length.2 (fun x hx => by obtain ⟨j, hj, rfl⟩ := List.mem_iff_getElem.1 hx; exact h j hj)
  unfold pix
  rw [e, if_neg (Nat.lt_irrefl _)]
theorem index_l0 (l : List ByteArray) (s : ByteArray) (hl : l.length ≤ 140737488351232) (d i : Nat) (hd : d + i = l.length) (hn : ∀ j (hj : j < l.length), j < i → eqText l[j] s = false) : Ev (fun k => slices_Index_string_string.l0 k l s (l.length : Int) i) (pix l s) := by
  induction d generalizing i with
  | zero => exact Ev.step (fun _ => rfl) (Ev.neg (by omega) (Ev.rets (pix_none (fun j hj => hn j hj (by omega))).symm))
  | succ d ih =>
    have hi : i < l.length := by omega
    have er : rdOf ByteArray.empty l (i : Int) = l[i] := by unfold rdOf; rw [Int.toNat_natCast, List.getD_eq_getElem?_getD, List.getElem?_eq_getElem hi]; rfl
    by_cases e : s.toList = (rdOf ByteArray.empty l (i : Int)).toList
    · refine Ev.step (fun _ => rfl) (Ev.pos (by omega) (Ev.pos (by omega) (Ev.pos (by omega) (Ev.pos e (Ev.rets ?_)))))
      exact (pix_at hi (by unfold eqText; rw [er] at e; rw [← e]; simp) hn).symm
    · refine Ev.step (fun _ => rfl) (Ev.pos (by omega) (Ev.pos (by omega) (Ev.pos (by omega) (Ev.neg e ?_))))
      rw [wrap_ok (show -9223372036854775808 ≤ (i : Int) + 1 by omega) (by omega)]
      refine ih (i + 1) (by omega) (fun j hj hji => ?_)
      rcases Nat.lt_succ_iff_lt_or_eq.1 hji with h | rfl
      · exact hn j hj h
      · unfold eqText; rw [er] at e; simp only [beq_eq_false_iff_ne, ne_eq]; exact fun h => e h.symm
theorem index_told (l : List ByteArray) (s : ByteArray) (hl : l.length ≤ 140737488351232) : Ev (fun k => slices_Index_string_string.f k l s) (pix l s) := index_l0 l s hl l.length 0 (by omega) (fun _ _ h => absurd h (Nat.not_lt_zero _))
def funB (v : Vl) : Bool := decide (v.f0 = 5) || (decide (v.f0 = 6) || decide (v.f0 = 7))
set_option maxRecDepth 100000 in
theorem vfun_c (v : Vl) {A6 A7 A8 : Option Addr} {c6 c7 c8 : Nat} {w : World} : Calls Try.prog 109 #[vv v A6 c6 A7 c7 A8 c8] w (BOut w (funB v)) := by
  have kV := blk_new w (.cells (vcells v A6 c6 A7 c7 A8 c8) 55)
  have b0 := below_alloc1 w (.cells (vcells v A6 c6 A7 c7 A8 c8) 55)
  obtain ⟨⟨v0, v1, v2, v3, v4, v5, v6, v7, v8, v9⟩, _, lv⟩ := ten kV
  have hq : funB v = (decide (v.f0 = 5) || (decide (v.f0 = 6) || decide (v.f0 = 7))) := rfl
  generalize funB v = o at hq ⊢
  have HQ := Aside0.mk hq
  have B0 := Aside0.mk b0
  clear hq b0 kV
  by_cases h5 : v.f0 = 5
  · have HN : Aside0 (o = true) := ⟨by rw [HQ.out]; simp [h5]⟩
    have a1 : decide (v.f0 = 5) = true := decide_eq_true (by first | exact h5 | omega)
    have a2 : (v.f0 == 5) = true := by (first | simpa using h5 | (simp; omega))
    have a3 : (v.f0 != 5) = false := by (first | simpa using h5 | (simp; omega))
    clear h5
    go_enter Try.func109, Try.ntmps109
    go_wp2
    go_ret
    exact ⟨by rw [HN.out]; rfl, B0.out⟩
  by_cases h6 : v.f0 = 6
  · have HN : Aside0 (o = true) := ⟨by rw [HQ.out]; simp [h6]⟩
    have a1 : decide (v.f0 = 5) = false := decide_eq_false (by first | exact h5 | omega)
    have a2 : (v.f0 == 5) = false := by (first | simpa using h5 | (simp; omega))
    have a3 : (v.f0 != 5) = true := by (first | simpa using h5 | (simp; omega))
    have b1 : decide (v.f0 = 6) = true := decide_eq_true (by first | exact h6 | omega)
    have b2 : (v.f0 == 6) = true := by (first | simpa using h6 | (simp; omega))
    have b3 : (v.f0 != 6) = false := by (first | simpa using h6 | (simp; omega))
    clear h6
    go_enter Try.func109, Try.ntmps109
    go_wp2
    go_ret
    exact ⟨by rw [HN.out]; rfl, B0.out⟩
  by_cases h7 : v.f0 = 7
  · have HN : Aside0 (o = true) := ⟨by rw [HQ.out]; simp [h7]⟩
    have a1 : decide (v.f0 = 5) = false := decide_eq_false (by first | exact h5 | omega)
    have a2 : (v.f0 == 5) = false := by (first | simpa using h5 | (simp; omega))
    have a3 : (v.f0 != 5) = true := by (first | simpa using h5 | (simp; omega))
    have b1 : decide (v.f0 = 6) = false := decide_eq_false (by first | exact h6 | omega)
    have b2 : (v.f0 == 6) = false := by (first | simpa using h6 | (simp; omega))
    have b3 : (v.f0 != 6) = true := by (first | simpa using h6 | (simp; omega))
    have d1 : decide (v.f0 = 7) = true := decide_eq_true (by first | exact h7 | omega)
    have d2 : (v.f0 == 7) = true := by (first | simpa using h7 | (simp; omega))
    have d3 : (v.f0 != 7) = false := by (first | simpa using h7 | (simp; omega))
    clear h7
    go_enter Try.func109, Try.ntmps109
    go_wp2
    go_ret
    exact ⟨by rw [HN.out]; rfl, B0.out⟩
  have HN : Aside0 (o = false) := ⟨by rw [HQ.out]; simp [h5, h6, h7]⟩
  have a1 : decide (v.f0 = 5) = false := decide_eq_false (by first | exact h5 | omega)
  have a2 : (v.f0 == 5) = false := by (first | simpa using h5 | (simp; omega))
  have a3 : (v.f0 != 5) = true := by (first | simpa using h5 | (simp; omega))
  have b1 : decide (v.f0 = 6) = false := decide_eq_false (by first | exact h6 | omega)
  have b2 : (v.f0 == 6) = false := by (first | simpa using h6 | (simp; omega))
  have b3 : (v.f0 != 6) = true := by (first | simpa using h6 | (simp; omega))
  have d1 : decide (v.f0 = 7) = false := decide_eq_false (by first | exact h7 | omega)
  have d2 : (v.f0 == 7) = false := by (first | simpa using h7 | (simp; omega))
  have d3 : (v.f0 != 7) = true := by (first | simpa using h7 | (simp; omega))
  go_enter Try.func109, Try.ntmps109
  go_wp2
  go_ret
  exact ⟨by rw [HN.out]; rfl, B0.out⟩
def functionV (lo up : Int) (inn : Bool) (v : Vl) (p : Ty) : Option Vl := if funB v = true then some ⟨7, lo, up, inn, ⟨#[]⟩, z52, [p], [], [v]⟩ else none
set_option maxHeartbeats 4000000 in
set_option maxRecDepth 100000 in
theorem function_c (lo up : Int) (inn : Bool) (v : Vl) (p : Ty) {ok : Nat → Prop} {A6 A7 A8 A3 A4 : Option Addr} {c6 c7 c8 c3 c4 : Nat} {w : World} (hok : ∀ k, ok k → k < w.heap.size) (hv : FV w ok v A6 c6 A7 c7 A8 c8) (hp : FT w ok p A3 c3 A4 c4) :
    Calls Try.prog 99 #[wy lo up inn, vv v A6 c6 A7 c7 A8 c8, tv p A3 c3 A4 c4] w (VOut w (fun k => ok k ∨ w.heap.size ≤ k) (functionV lo up inn v p)) := by
  obtain ⟨⟨kW, kV, kP, kR⟩, b0, sz0⟩ := fourb w (wcells lo up inn) (vcells v A6 c6 A7 c7 A8 c8) (tarr p A3 c3 A4 c4) zcells 92 55 25 55
  obtain ⟨⟨y0, y1, y2⟩, _, lw⟩ := three kW
  obtain ⟨⟨v0, v1, v2, v3, v4, v5, v6, v7, v8, v9⟩, _, lv⟩ := ten kV
  obtain ⟨⟨p0, p1, p2, p3, p4⟩, _, lp⟩ := five kP
  have hq : functionV lo up inn v p = if funB v = true then some ⟨7, lo, up, inn, ⟨#[]⟩, z52, [p], [], [v]⟩ else none := rfl
  generalize functionV lo up inn v p = o at hq ⊢
  have HQ := Aside0.mk hq
  clear hq
  have hv0 := hv.below b0
  have hp0 := hp.below b0
  have SZ := Aside0.mk sz0
  clear sz0
  go_enter Try.func99, Try.ntmps99
  go_wp2_with fail
  refine (vfun_c v).mono ?_
  rintro e w1 ⟨rfl, hb⟩
  clear y0 y1 y2 lw v0 v1 v2 v3 v4 v5 v6 v7 v8 v9 lv p0 p1 p2 p3 p4 lp
  have b1 := chain b0 hb
  replace kW := blk_up hb kW
  replace kV := blk_up hb kV
  replace kP := blk_up hb kP
  replace kR := blk_up hb kR
  replace hv0 := hv0.below hb
  replace hp0 := hp0.below hb
  have S1 := Aside0.mk (blk_lt kR)
  clear hb b0
  obtain ⟨⟨y0, y1, y2⟩, _, lw⟩ := three kW
  obtain ⟨⟨v0, v1, v2, v3, v4, v5, v6, v7, v8, v9⟩, _, lv⟩ := ten kV
  obtain ⟨⟨p0, p1, p2, p3, p4⟩, _, lp⟩ := five kP
  obtain ⟨⟨r0, r1, r2, r3, r4, r5, r6, r7, r8, r9⟩, ⟨s0, s1, s2, s3, s4, s5, s6, s7, s8, s9⟩, lr⟩ := ten kR
  cases hf : funB v with
  | false =>
    have HN : Aside0 (o = none) := ⟨by rw [HQ.out, hf]; rfl⟩
    clear hf
    go_wp2
    (try simp only [Exit.inBlock, Exit.then]); refine bodyPost_ret (results_ct rfl _ _ _ 55 _ (0, 0) _ rfl (stored10 kR _ _ _ _ _ _ _ _ _ _) Try.underlying55 rfl (by kernel_rfl)) rfl ?_
    exact VOut.no (below10 b1 (by omega) _ _ _ _ _ _ _ _ _ _) HN.out
  | true =>
    have HN : Aside0 (o = some ⟨7, lo, up, inn, ⟨#[]⟩, z52, [p], [], [v]⟩) := ⟨by rw [HQ.out, hf]; rfl⟩
    clear hf
    go_wp2_with (first
      | ((with_reducible refine gate_dst (N := 13) rfl ?_); refine Kd.N_lit kTy (w0 := w1) w1.heap.size 25 ?hg13 (N' := 13) ?hd13 (xs := [p]) (inner := tcells p A3 c3 A4 c4) (ok := fun k => ok k ∨ w1.heap.size ≤ k) (okp := ok) ?hr13 ?hp13 (fun _ hk => .inl hk) (.inr (Nat.le_refl _)) (Below.refl _ _) (Nat.le_refl _) (by simp) ?_; (case hd13 => rfl); (case hg13 => rfl); (case hr13 => first | (go_simp; done) | (go_simp; rfl)); (case hp13 => exact reps_one hp0.fk rfl); intro vt w2 hNt hBt hg_13 hat_13; clear hg_13 hat_13; obtain ⟨A13, d13, rfl⟩ := Kd.N_slice hNt; have HN13 := Aside0.mk hNt; clear hNt; clear y0 y1 y2 lw v0 v1 v2 v3 v4 v5 v6 v7 v8 v9 lv p0 p1 p2 p3 p4 lp r0 r1 r2 r3 r4 r5 r6 r7 r8 r9 s0 s1 s2 s3 s4 s5 s6 s7 s8 s9 lr; replace kW := blk_up hBt kW; replace kV := blk_up hBt kV; replace kP := blk_up hBt kP; replace kR := blk_up hBt kR; replace hv0 := hv0.below hBt; replace hp0 := hp0.below hBt; have BB13 := Aside0.mk hBt; clear hBt; obtain ⟨⟨y0, y1, y2⟩, _, lw⟩ := three kW; obtain ⟨⟨v0, v1, v2, v3, v4, v5, v6, v7, v8, v9⟩, _, lv⟩ := ten kV; obtain ⟨⟨p0, p1, p2, p3, p4⟩, _, lp⟩ := five kP; obtain ⟨⟨r0, r1, r2, r3, r4, r5, r6, r7, r8, r9⟩, ⟨s0, s1, s2, s3, s4, s5, s6, s7, s8, s9⟩, lr⟩ := ten kR)
      | ((with_reducible refine gate_dst (N := 21) rfl ?_); refine Kd.N_lit kVl (w0 := w2) w2.heap.size 55 ?hg21 (N' := 21) ?hd21 (xs := [v]) (inner := vlist v A6 c6 A7 c7 A8 c8) (ok := fun k => ok k ∨ w2.heap.size ≤ k) (okp := ok) ?hr21 ?hp21 (fun _ hk => .inl hk) (.inr (Nat.le_refl _)) (Below.refl _ _) (Nat.le_refl _) (by simp) ?_; (case hd21 => rfl); (case hg21 => rfl); (case hr21 => first | (go_simp; done) | (go_simp; rfl)); (case hp21 => exact reps_one hv0.fk rfl); intro vl w3 hNv hBv hg_21 hat_21; clear hg_21 hat_21; obtain ⟨A21, d21, rfl⟩ := Kd.N_slice hNv; have HN21 := Aside0.mk hNv; clear hNv; clear y0 y1 y2 lw v0 v1 v2 v3 v4 v5 v6 v7 v8 v9 lv p0 p1 p2 p3 p4 lp r0 r1 r2 r3 r4 r5 r6 r7 r8 r9 s0 s1 s2 s3 s4 s5 s6 s7 s8 s9 lr; replace kW := blk_up hBv kW; replace kV := blk_up hBv kV; replace kP := blk_up hBv kP; replace kR := blk_up hBv kR; replace hv0 := hv0.below hBv; replace hp0 := hp0.below hBv; have BB21 := Aside0.mk hBv; clear hBv; obtain ⟨⟨y0, y1, y2⟩, _, lw⟩ := three kW; obtain ⟨⟨v0, v1, v2, v3, v4, v5, v6, v7, v8, v9⟩, _, lv⟩ := ten kV; obtain ⟨⟨p0, p1, p2, p3, p4⟩, _, lp⟩ := five kP; obtain ⟨⟨r0, r1, r2, r3, r4, r5, r6, r7, r8, r9⟩, ⟨s0, s1, s2, s3, s4, s5, s6, s7, s8, s9⟩, lr⟩ := ten kR))
    (try simp only [Exit.inBlock, Exit.then]); refine bodyPost_ret (results_ct rfl _ _ _ 55 _ (0, 0) _ rfl (stored10 kR _ _ _ _ _ _ _ _ _ _) Try.underlying55 rfl (by kernel_rfl)) rfl ?_
    have n1 := HN13.out
    have n2 := HN21.out
    have z0 := SZ.out
    have z1 := S1.out
    have z2 := BB13.out.size
    refine VOut.yes (u := ⟨7, lo, up, inn, ⟨#[]⟩, z52, [p], [], [v]⟩) (A6 := A13) (c6 := d13) (A7 := none) (c7 := 0) (A8 := A21) (c8 := d21) (below10 (chain (chain b1 BB13.out) BB21.out) (by omega) _ _ _ _ _ _ _ _ _ _) HN.out ?_
    refine (FV.stored (g := w.heap.size + 1 + 1 + 1) (ok := fun k => ok k ∨ w1.heap.size ≤ k) ⟨(Kd.N_reads' n1).2.1, ?_, Nat.le_refl _, Kd.F_nil _ _ _, (Kd.N_reads' n2).2.1, ?_⟩ (fun k hk => by rcases hk with hk | hk; (have := hok k hk; omega); omega) _ _ _ _ _ _ _ _ _ _).mono (fun k hk => by rcases hk with hk | hk; exact .inl hk; exact .inr (by omega))
    · exact Kd.F_below (Kd.N_F n1) BB21.out
    · exact Kd.F_mono (Kd.N_F n2) (fun k hk => by rcases hk with hk | hk; exact .inl hk; exact .inr (by omega))
end Go.Proofs.Ytnfnhjhnfdkinaa.PConvBack

/-
  ConvBack: texts of this claim, put together by a program of this session. No conditions beyond what each lemma says.
-/
import Derived.Test.YtnfnhjhnfdkinaazConvBack13
import Derived.Test.YtnfnhjhnfdkinaazConvBack19
import Derived.WalkMore
namespace Go.Proofs.Ytnfnhjhnfdkinaa.PConvBack
open Go.RowKit Go.Proofs.YtnfnhjhnfdkinaaW.Mine Go.Proofs.YtnfnhjhnfdkinaaW.PrintWords Go.Proofs.YtnfnhjhnfdkinaaW.PrintLast Go.Proofs.YtnfnhjhnfdkinaaW.PrintMore
attribute [local go_sem] max2_int min2_int max_two min_two max_three min_three max_four min_four
set_option linter.unusedVariables false
set_option linter.unusedSimpArgs false
/-- The first place of a text; none: -1. -/
def pix (l : List ByteArray) (s : ByteArray) : Int := if l.findIdx (fun b => eqText b s) < l.length then ((l.findIdx (fun b => eqText b s) : Nat) : Int) else -1
theorem pix_ge (l : List ByteArray) (s : ByteArray) : -1 ≤ pix l s := by unfold pix; split <;> omega
theorem pix_lt (l : List ByteArray) (s : ByteArray) : pix l s < l.length := by unfold pix; split <;> omega
theorem pix_at {m : List ByteArray} {s : ByteArray} {i : Nat} (hi : i < m.length) (h : eqText m[i] s = true) (hj : ∀ j (hj : j < m.length), j < i → eqText m[j] s = false) : pix m s = (i : Int) := by
  have e : m.findIdx (fun b => eqText b s) = i := (List.findIdx_eq hi).2 ⟨h, fun j hji => hj j (by omega) hji⟩
  unfold pix
  rw [e, if_pos hi]
theorem pix_none {m : List ByteArray} {s : ByteArray} (h : ∀ j (hj : j < m.length), eqText m[j] s = false) : pix m s = -1 := by
  have e : m.findIdx (fun b => eqText b s) = m.length := List.findIdx_eq_length.2 (fun x hx => by obtain ⟨j, hj, rfl⟩ := List.mem_iff_getElem.1 hx; exact h j hj)
  unfold pix
  rw [e, if_neg (Nat.lt_irrefl _)]
theorem index_l0 (l : List ByteArray) (s : ByteArray) (hl : l.length ≤ 140737488351232) (d i : Nat) (hd : d + i = l.length) (hn : ∀ j (hj : j < l.length), j < i → eqText l[j] s = false) : Ev (fun k => slices_Index_string_string.l0 k l s (l.length : Int) i) (pix l s) := by
  induction d generalizing i with
  | zero => exact Ev.step (fun _ => rfl) (Ev.neg (by omega) (Ev.rets (pix_none (fun j hj => hn j hj (by omega))).symm))
  | succ d ih =>
    have hi : i < l.length := by omega
    have er : rdOf ByteArray.empty l (i : Int) = l[i] := by unfold rdOf; rw [Int.toNat_natCast, List.getD_eq_getElem?_getD, List.getElem?_eq_getElem hi]; rfl
    by_cases e : s.toList = (rdOf ByteArray.empty l (i : Int)).toList
    · refine Ev.step (fun _ => rfl) (Ev.pos (by omega) (Ev.pos (by omega) (Ev.pos (by omega) (Ev.pos e (Ev.rets ?_)))))
      exact (pix_at hi (by unfold eqText; rw [er] at e; rw [← e]; simp) hn).symm
    · refine Ev.step (fun _ => rfl) (Ev.pos (by omega) (Ev.pos (by omega) (Ev.pos (by omega) (Ev.neg e ?_))))
      rw [wrap_ok (show -9223372036854775808 ≤ (i : Int) + 1 by omega) (by omega)]
      refine ih (i + 1) (by omega) (fun j hj hji => ?_)
      rcases Nat.lt_succ_iff_lt_or_eq.1 hji with h | rfl
      · exact hn j hj h
      · unfold eqText; rw [er] at e; simp only [beq_eq_false_iff_ne, ne_eq]; exact fun h => e h.symm
theorem index_told (l : List ByteArray) (s : ByteArray) (hl : l.length ≤ 140737488351232) : Ev (fun k => slices_Index_string_string.f k l s) (pix l s) := index_l0 l s hl l.length 0 (by omega) (fun _ _ h => absurd h (Nat.not_lt_zero _))
def funB (v : Vl) : Bool := decide (v.f0 = 5) || (decide (v.f0 = 6) || decide (v.f0 = 7))
set_option maxRecDepth 100000 in
theorem vfun_c (v : Vl) {A6 A7 A8 : Option Addr} {c6 c7 c8 : Nat} {w : World} : Calls Try.prog 109 #[vv v A6 c6 A7 c7 A8 c8] w (BOut w (funB v)) := by
  have kV := blk_new w (.cells (vcells v A6 c6 A7 c7 A8 c8) 55)
  have b0 := below_alloc1 w (.cells (vcells v A6 c6 A7 c7 A8 c8) 55)
  obtain ⟨⟨v0, v1, v2, v3, v4, v5, v6, v7, v8, v9⟩, _, lv⟩ := ten kV
  have hq : funB v = (decide (v.f0 = 5) || (decide (v.f0 = 6) || decide (v.f0 = 7))) := rfl
  generalize funB v = o at hq ⊢
  have HQ := Aside0.mk hq
  have B0 := Aside0.mk b0
  clear hq b0 kV
  by_cases h5 : v.f0 = 5
  · have HN : Aside0 (o = true) := ⟨by rw [HQ.out]; simp [h5]⟩
    have a1 : decide (v.f0 = 5) = true := decide_eq_true (by first | exact h5 | omega)
    have a2 : (v.f0 == 5) = true := by (first | simpa using h5 | (simp; omega))
    have a3 : (v.f0 != 5) = false := by (first | simpa using h5 | (simp; omega))
    clear h5
    go_enter Try.func109, Try.ntmps109
    go_wp2
    go_ret
    exact ⟨by rw [HN.out]; rfl, B0.out⟩
  by_cases h6 : v.f0 = 6
  · have HN : Aside0 (o = true) := ⟨by rw [HQ.out]; simp [h6]⟩
    have a1 : decide (v.f0 = 5) = false := decide_eq_false (by first | exact h5 | omega)
    have a2 : (v.f0 == 5) = false := by (first | simpa using h5 | (simp; omega))
    have a3 : (v.f0 != 5) = true := by (first | simpa using h5 | (simp; omega))
    have b1 : decide (v.f0 = 6) = true := decide_eq_true (by first | exact h6 | omega)
    have b2 : (v.f0 == 6) = true := by (first | simpa using h6 | (simp; omega))
    have b3 : (v.f0 != 6) = false := by (first | simpa using h6 | (simp; omega))
    clear h6
    go_enter Try.func109, Try.ntmps109
    go_wp2
    go_ret
    exact ⟨by rw [HN.out]; rfl, B0.out⟩
  by_cases h7 : v.f0 = 7
  · have HN : Aside0 (o = true) := ⟨by rw [HQ.out]; simp [h7]⟩
    have a1 : decide (v.f0 = 5) = false := decide_eq_false (by first | exact h5 | omega)
    have a2 : (v.f0 == 5) = false := by (first | simpa using h5 | (simp; omega))
    have a3 : (v.f0 != 5) = true := by (first | simpa using h5 | (simp; omega))
    have b1 : decide (v.f0 = 6) = false := decide_eq_false (by first | exact h6 | omega)
    have b2 : (v.f0 == 6) = false := by (first | simpa using h6 | (simp; omega))
    have b3 : (v.f0 != 6) = true := by (first | simpa using h6 | (simp; omega))
    have d1 : decide (v.f0 = 7) = true := decide_eq_true (by first | exact h7 | omega)
    have d2 : (v.f0 == 7) = true := by (first | simpa using h7 | (simp; omega))
    have d3 : (v.f0 != 7) = false := by (first | simpa using h7 | (simp; omega))
    clear h7
    go_enter Try.func109, Try.ntmps109
    go_wp2
    go_ret
    exact ⟨by rw [HN.out]; rfl, B0.out⟩
  have HN : Aside0 (o = false) := ⟨by rw [HQ.out]; simp [h5, h6, h7]⟩
  have a1 : decide (v.f0 = 5) = false := decide_eq_false (by first | exact h5 | omega)
  have a2 : (v.f0 == 5) = false := by (first | simpa using h5 | (simp; omega))
  have a3 : (v.f0 != 5) = true := by (first | simpa using h5 | (simp; omega))
  have b1 : decide (v.f0 = 6) = false := decide_eq_false (by first | exact h6 | omega)
  have b2 : (v.f0 == 6) = false := by (first | simpa using h6 | (simp; omega))
  have b3 : (v.f0 != 6) = true := by (first | simpa using h6 | (simp; omega))
  have d1 : decide (v.f0 = 7) = false := decide_eq_false (by first | exact h7 | omega)
  have d2 : (v.f0 == 7) = false := by (first | simpa using h7 | (simp; omega))
  have d3 : (v.f0 != 7) = true := by (first | simpa using h7 | (simp; omega))
  go_enter Try.func109, Try.ntmps109
  go_wp2
  go_ret
  exact ⟨by rw [HN.out]; rfl, B0.out⟩
def functionV (lo up : Int) (inn : Bool) (v : Vl) (p : Ty) : Option Vl := if funB v = true then some ⟨7, lo, up, inn, ⟨#[]⟩, z52, [p], [], [v]⟩ else none
set_option maxHeartbeats 4000000 in
set_option maxRecDepth 100000 in
theorem function_c (lo up : Int) (inn : Bool) (v : Vl) (p : Ty) {ok : Nat → Prop} {A6 A7 A8 A3 A4 : Option Addr} {c6 c7 c8 c3 c4 : Nat} {w : World} (hok : ∀ k, ok k → k < w.heap.size) (hv : FV w ok v A6 c6 A7 c7 A8 c8) (hp : FT w ok p A3 c3 A4 c4) :
    Calls Try.prog 99 #[wy lo up inn, vv v A6 c6 A7 c7 A8 c8, tv p A3 c3 A4 c4] w (VOut w (fun k => ok k ∨ w.heap.size ≤ k) (functionV lo up inn v p)) := by
  obtain ⟨⟨kW, kV, kP, kR⟩, b0, sz0⟩ := fourb w (wcells lo up inn) (vcells v A6 c6 A7 c7 A8 c8) (tarr p A3 c3 A4 c4) zcells 92 55 25 55
  obtain ⟨⟨y0, y1, y2⟩, _, lw⟩ := three kW
  obtain ⟨⟨v0, v1, v2, v3, v4, v5, v6, v7, v8, v9⟩, _, lv⟩ := ten kV
  obtain ⟨⟨p0, p1, p2, p3, p4⟩, _, lp⟩ := five kP
  have hq : functionV lo up inn v p = if funB v = true then some ⟨7, lo, up, inn, ⟨#[]⟩, z52, [p], [], [v]⟩ else none := rfl
  generalize functionV lo up inn v p = o at hq ⊢
  have HQ := Aside0.mk hq
  clear hq
  have hv0 := hv.below b0
  have hp0 := hp.below b0
  have SZ := Aside0.mk sz0
  clear sz0
  go_enter Try.func99, Try.ntmps99
  go_wp2_with fail
  refine (vfun_c v).mono ?_
  rintro e w1 ⟨rfl, hb⟩
  clear y0 y1 y2 lw v0 v1 v2 v3 v4 v5 v6 v7 v8 v9 lv p0 p1 p2 p3 p4 lp
  have b1 := chain b0 hb
  replace kW := blk_up hb kW
  replace kV := blk_up hb kV
  replace kP := blk_up hb kP
  replace kR := blk_up hb kR
  replace hv0 := hv0.below hb
  replace hp0 := hp0.below hb
  have S1 := Aside0.mk (blk_lt kR)
  clear hb b0
  obtain ⟨⟨y0, y1, y2⟩, _, lw⟩ := three kW
  obtain ⟨⟨v0, v1, v2, v3, v4, v5, v6, v7, v8, v9⟩, _, lv⟩ := ten kV
  obtain ⟨⟨p0, p1, p2, p3, p4⟩, _, lp⟩ := five kP
  obtain ⟨⟨r0, r1, r2, r3, r4, r5, r6, r7, r8, r9⟩, ⟨s0, s1, s2, s3, s4, s5, s6, s7, s8, s9⟩, lr⟩ := ten kR
  cases hf : funB v with
  | false =>
    have HN : Aside0 (o = none) := ⟨by rw [HQ.out, hf]; rfl⟩
    clear hf
    go_wp2
    (try simp only [Exit.inBlock, Exit.then]); refine bodyPost_ret (results_ct rfl _ _ _ 55 _ (0, 0) _ rfl (stored10 kR _ _ _ _ _ _ _ _ _ _) Try.underlying55 rfl (by kernel_rfl)) rfl ?_
    exact VOut.no (below10 b1 (by omega) _ _ _ _ _ _ _ _ _ _) HN.out
  | true =>
    have HN : Aside0 (o = some ⟨7, lo, up, inn, ⟨#[]⟩, z52, [p], [], [v]⟩) := ⟨by rw [HQ.out, hf]; rfl⟩
    clear hf
    go_wp2_with (first
      | ((with_reducible refine gate_dst (N := 13) rfl ?_); refine Kd.N_lit kTy (w0 := w1) w1.heap.size 25 ?hg13 (N' := 13) ?hd13 (xs := [p]) (inner := tcells p A3 c3 A4 c4) (ok := fun k => ok k ∨ w1.heap.size ≤ k) (okp := ok) ?hr13 ?hp13 (fun _ hk => .inl hk) (.inr (Nat.le_refl _)) (Below.refl _ _) (Nat.le_refl _) (by simp) ?_; (case hd13 => rfl); (case hg13 => rfl); (case hr13 => first | (go_simp; done) | (go_simp; rfl)); (case hp13 => exact reps_one hp0.fk rfl); intro vt w2 hNt hBt hg_13 hat_13; clear hg_13 hat_13; obtain ⟨A13, d13, rfl⟩ := Kd.N_slice hNt; have HN13 := Aside0.mk hNt; clear hNt; clear y0 y1 y2 lw v0 v1 v2 v3 v4 v5 v6 v7 v8 v9 lv p0 p1 p2 p3 p4 lp r0 r1 r2 r3 r4 r5 r6 r7 r8 r9 s0 s1 s2 s3 s4 s5 s6 s7 s8 s9 lr; replace kW := blk_up hBt kW; replace kV := blk_up hBt kV; replace kP := blk_up hBt kP; replace kR := blk_up hBt kR; replace hv0 := hv0.below hBt; replace hp0 := hp0.below hBt; have BB13 := Aside0.mk hBt; clear hBt; obtain ⟨⟨y0, y1, y2⟩, _, lw⟩ := three kW; obtain ⟨⟨v0, v1, v2, v3, v4, v5, v6, v7, v8, v9⟩, _, lv⟩ := ten kV; obtain ⟨⟨p0, p1, p2, p3, p4⟩, _, lp⟩ := five kP; obtain ⟨⟨r0, r1, r2, r3, r4, r5, r6, r7, r8, r9⟩, ⟨s0, s1, s2, s3, s4, s5, s6, s7, s8, s9⟩, lr⟩ := ten kR)
      | ((with_reducible refine gate_dst (N := 21) rfl ?_); refine Kd.N_lit kVl (w0 := w2) w2.heap.size 55 ?hg21 (N' := 21) ?hd21 (xs := [v]) (inner := vlist v A6 c6 A7 c7 A8 c8) (ok := fun k => ok k ∨ w2.heap.size ≤ k) (okp := ok) ?hr21 ?hp21 (fun _ hk => .inl hk) (.inr (Nat.le_refl _)) (Below.refl _ _) (Nat.le_refl _) (by simp) ?_; (case hd21 => rfl); (case hg21 => rfl); (case hr21 => first | (go_simp; done) | (go_simp; rfl)); (case hp21 => exact reps_one hv0.fk rfl); intro vl w3 hNv hBv hg_21 hat_21; clear hg_21 hat_21; obtain ⟨A21, d21, rfl⟩ := Kd.N_slice hNv; have HN21 := Aside0.mk hNv; clear hNv; clear y0 y1 y2 lw v0 v1 v2 v3 v4 v5 v6 v7 v8 v9 lv p0 p1 p2 p3 p4 lp r0 r1 r2 r3 r4 r5 r6 r7 r8 r9 s0 s1 s2 s3 s4 s5 s6 s7 s8 s9 lr; replace kW := blk_up hBv kW; replace kV := blk_up hBv kV; replace kP := blk_up hBv kP; replace kR := blk_up hBv kR; replace hv0 := hv0.below hBv; replace hp0 := hp0.below hBv; have BB21 := Aside0.mk hBv; clear hBv; obtain ⟨⟨y0, y1, y2⟩, _, lw⟩ := three kW; obtain ⟨⟨v0, v1, v2, v3, v4, v5, v6, v7, v8, v9⟩, _, lv⟩ := ten kV; obtain ⟨⟨p0, p1, p2, p3, p4⟩, _, lp⟩ := five kP; obtain ⟨⟨r0, r1, r2, r3, r4, r5, r6, r7, r8, r9⟩, ⟨s0, s1, s2, s3, s4, s5, s6, s7, s8, s9⟩, lr⟩ := ten kR))
    (try simp only [Exit.inBlock, Exit.then]); refine bodyPost_ret (results_ct rfl _ _ _ 55 _ (0, 0) _ rfl (stored10 kR _ _ _ _ _ _ _ _ _ _) Try.underlying55 rfl (by kernel_rfl)) rfl ?_
    have n1 := HN13.out
    have n2 := HN21.out
    have z0 := SZ.out
    have z1 := S1.out
    have z2 := BB13.out.size
    refine VOut.yes (u := ⟨7, lo, up, inn, ⟨#[]⟩, z52, [p], [], [v]⟩) (A6 := A13) (c6 := d13) (A7 := none) (c7 := 0) (A8 := A21) (c8 := d21) (below10 (chain (chain b1 BB13.out) BB21.out) (by omega) _ _ _ _ _ _ _ _ _ _) HN.out ?_
    refine (FV.stored (g := w.heap.size + 1 + 1 + 1) (ok := fun k => ok k ∨ w1.heap.size ≤ k) ⟨(Kd.N_reads' n1).2.1, ?_, Nat.le_refl _, Kd.F_nil _ _ _, (Kd.N_reads' n2).2.1, ?_⟩ (fun k hk => by rcases hk with hk | hk; (have := hok k hk; omega); omega) _ _ _ _ _ _ _ _ _ _).mono (fun k hk => by rcases hk with hk | hk; exact .inl hk; exact .inr (by omega))
    · exact Kd.F_below (Kd.N_F n1) BB21.out
    · exact Kd.F_mono (Kd.N_F n2) (fun k hk => by rcases hk with hk | hk; exact .inl hk; exact .inr (by omega))
end Go.Proofs.Ytnfnhjhnfdkinaa.PConvBack
namespace Go.Proofs.Ytnfnhjhnfdkinaa.PConvBack
open Go.RowKit Go.Proofs.YtnfnhjhnfdkinaaW.Mine Go.Proofs.YtnfnhjhnfdkinaaW.PrintWords Go.Proofs.YtnfnhjhnfdkinaaW.PrintLast Go.Proofs.YtnfnhjhnfdkinaaW.PrintMore
attribute [local go_sem] max2_int min2_int max_two min_two max_three min_three max_four min_four
set_option linter.unusedVariables false
set_option linter.unusedSimpArgs false
/-- A type comes, or none. -/
def TOut (w : World) (ok : Nat → Prop) (o : Option Ty) (e : Ending) (w' : World) : Prop :=
  Below w.heap.size w w' ∧ match o with
  | none => e = .returned (.tuple #[tv z25 none 0 none 0, .bool false])
  | some u => ∃ A3 c3 A4 c4, e = .returned (.tuple #[tv u A3 c3 A4 c4, .bool true]) ∧ FT w' ok u A3 c3 A4 c4
theorem TOut.no {w w' : World} {ok : Nat → Prop} {o : Option Ty} (hb : Below w.heap.size w w') (ho : o = none) : TOut w ok o (.returned (.tuple #[tv z25 none 0 none 0, .bool false])) w' := by
  subst ho; exact ⟨hb, rfl⟩
theorem TOut.yes {w w' : World} {ok : Nat → Prop} {o : Option Ty} {u : Ty} {A3 A4 : Option Addr} {c3 c4 : Nat} (hb : Below w.heap.size w w') (ho : o = some u) (hf : FT w' ok u A3 c3 A4 c4) : TOut w ok o (.returned (.tuple #[tv u A3 c3 A4 c4, .bool true])) w' := by
  subst ho; exact ⟨hb, A3, c3, A4, c4, rfl, hf⟩
theorem index_c (l : List ByteArray) (s : ByteArray) (hl : l.length ≤ 140737488351232) {A : Option Addr} {c : Nat} {w : World} (h : Kd.string.C w A l.length l) (hc : l.length ≤ c) :
    Calls Try.prog 66 #[.slice A l.length c, .string s] w fun e w' => e = .returned (.int .i64 (pix l s)) ∧ Below w.heap.size w w' := by
  obtain ⟨k, hk⟩ := (index_told l s hl).rounds
  exact (slices_Index_string_string.calls k A c l s _ w h hc hk).mono fun e w' k => ⟨k.1, k.2.below⟩
def fieldV (v : Vl) (s : ByteArray) : Option Vl := if v.f0 = 4 ∧ 0 ≤ pix v.f7 s ∧ pix v.f7 s < (v.f8.length : Int) then some (v.f8.getD (pix v.f7 s).toNat zV) else none
theorem fieldV_no {v : Vl} {s : ByteArray} (h : ¬ (v.f0 = 4 ∧ 0 ≤ pix v.f7 s ∧ pix v.f7 s < (v.f8.length : Int))) : fieldV v s = none := if_neg h
theorem fieldV_yes {v : Vl} {s : ByteArray} {i : Nat} (h0 : v.f0 = 4) (h1 : pix v.f7 s = (i : Int)) (hi : i < v.f8.length) : fieldV v s = some v.f8[i] := by
  unfold fieldV
  rw [if_pos ⟨h0, by omega, by omega⟩, h1, Int.toNat_natCast, List.getD_eq_getElem?_getD, List.getElem?_eq_getElem hi]; rfl
set_option maxHeartbeats 4000000 in
set_option maxRecDepth 100000 in
theorem fieldV_c (v : Vl) (s : ByteArray) {ok : Nat → Prop} {A6 A7 A8 : Option Addr} {c6 c7 c8 : Nat} {w : World} (hok : ∀ k, ok k → k < w.heap.size) (hl7 : v.f7.length ≤ 140737488351232) (hv : FV w ok v A6 c6 A7 c7 A8 c8) :
    Calls Try.prog 111 #[vv v A6 c6 A7 c7 A8 c8, .string s] w (VOut w ok (fieldV v s)) := by
  have kV := blk_new w (.cells (vcells v A6 c6 A7 c7 A8 c8) 55)
  have kR := blk_new (w.alloc (.cells (vcells v A6 c6 A7 c7 A8 c8) 55)) (.cells zcells 55)
  rw [World.size_alloc] at kR
  replace kV := blk_alloc kV (.cells zcells 55)
  have b0 := chain (below_alloc1 w (.cells (vcells v A6 c6 A7 c7 A8 c8) 55)) (below_alloc1 (w.alloc (.cells (vcells v A6 c6 A7 c7 A8 c8) 55)) (.cells zcells 55))
  obtain ⟨⟨v0, v1, v2, v3, v4, v5, v6, v7, v8, v9⟩, _, lv⟩ := ten kV
  have hv0 := hv.below b0
  have HNO : Aside0 (¬ (v.f0 = 4 ∧ 0 ≤ pix v.f7 s ∧ pix v.f7 s < (v.f8.length : Int)) → fieldV v s = none) := ⟨fieldV_no⟩
  have HYES : Aside0 (∀ i : Nat, (hi : i < v.f8.length) → v.f0 = 4 → pix v.f7 s = (i : Int) → fieldV v s = some v.f8[i]) := ⟨fun i hi h0 h1 => fieldV_yes h0 h1 hi⟩
  have hge := pix_ge v.f7 s
  have hlt := pix_lt v.f7 s
  go_enter Try.func111, Try.ntmps111
  go_wp2_with fail
  refine (index_c v.f7 s hl7 (Kd.F_now hv0.2.2.2.1) hv.2.2.1).mono ?_
  rintro e w1 ⟨rfl, hb⟩
  have b1 := chain b0 hb
  replace kV := blk_up hb kV
  replace kR := blk_up hb kR
  replace hv0 := hv0.below hb
  clear v0 v1 v2 v3 v4 v5 v6 v7 v8 v9 lv
  clear hb b0
  obtain ⟨⟨v0, v1, v2, v3, v4, v5, v6, v7, v8, v9⟩, _, lv⟩ := ten kV
  obtain ⟨⟨r0, r1, r2, r3, r4, r5, r6, r7, r8, r9⟩, ⟨s0, s1, s2, s3, s4, s5, s6, s7, s8, s9⟩, lr⟩ := ten kR
  generalize pix v.f7 s = ix at *
  generalize fieldV v s = o at *
  by_cases hk : v.f0 = 4
  · by_cases h0 : ix < 0
    · have HN := Aside0.mk (HNO.out (fun h => by omega))
      have a1 : decide (v.f0 = 4) = true := decide_eq_true hk
      have a2 : (v.f0 == 4) = true := by simpa using hk
      have a3 : (v.f0 != 4) = false := by simpa using hk
      have d1 : decide (ix < 0) = true := decide_eq_true h0
      clear hk HNO HYES
      go_wp2
      (try simp only [Exit.inBlock, Exit.then]); refine bodyPost_ret (results_ct rfl _ _ _ 55 _ (0, 0) _ rfl (stored10 kR _ _ _ _ _ _ _ _ _ _) Try.underlying55 rfl (by kernel_rfl)) rfl ?_
      exact VOut.no (below10 b1 (by omega) _ _ _ _ _ _ _ _ _ _) HN.out
    have d1 : decide (ix < 0) = false := decide_eq_false h0
    obtain ⟨i, rfl⟩ : ∃ i : Nat, ix = (i : Int) := ⟨ix.toNat, by omega⟩
    by_cases hi : i < v.f8.length
    · have HN := Aside0.mk (HYES.out i hi hk rfl)
      have a1 : decide (v.f0 = 4) = true := decide_eq_true hk
      have a2 : (v.f0 == 4) = true := by simpa using hk
      have a3 : (v.f0 != 4) = false := by simpa using hk
      have d2 : decide ((v.f8.length : Int) ≤ (i : Int)) = false := decide_eq_false (by omega)
      have d3 : decide (v.f8.length ≤ i) = false := decide_eq_false (by omega)
      have i0 : (0 : Int) ≤ (i : Int) := by omega
      have i1 : (i : Int) < (v.f8.length : Int) := by omega
      obtain ⟨ad, X6, e6, X7, e7, X8, e8, hA, fx, x0, x1, x2, x3, x4, x5, x6, x7, x8, x9⟩ := velt hv0.2.2.2.2.2 i hi
      subst hA
      generalize v.f8[i] = y at *
      clear hk HNO HYES
      go_wp2
      (try simp only [Exit.inBlock, Exit.then]); refine bodyPost_ret (results_ct rfl _ _ _ 55 _ (0, 0) _ rfl (stored10 kR _ _ _ _ _ _ _ _ _ _) Try.underlying55 rfl (by kernel_rfl)) rfl ?_
      exact VOut.yes (below10 b1 (by omega) _ _ _ _ _ _ _ _ _ _) HN.out (fx.stored (fun k hk => by have := hok k hk; omega) _ _ _ _ _ _ _ _ _ _)
    · have HN := Aside0.mk (HNO.out (fun h => by omega))
      have a1 : decide (v.f0 = 4) = true := decide_eq_true hk
      have a2 : (v.f0 == 4) = true := by simpa using hk
      have a3 : (v.f0 != 4) = false := by simpa using hk
      have d2 : decide ((v.f8.length : Int) ≤ (i : Int)) = true := decide_eq_true (by omega)
      have d3 : decide (v.f8.length ≤ i) = true := decide_eq_true (by omega)
      clear hk HNO HYES
      go_wp2
      (try simp only [Exit.inBlock, Exit.then]); refine bodyPost_ret (results_ct rfl _ _ _ 55 _ (0, 0) _ rfl (stored10 kR _ _ _ _ _ _ _ _ _ _) Try.underlying55 rfl (by kernel_rfl)) rfl ?_
      exact VOut.no (below10 b1 (by omega) _ _ _ _ _ _ _ _ _ _) HN.out
  · have HN := Aside0.mk (HNO.out (fun h => hk h.1))
    have a1 : decide (v.f0 = 4) = false := decide_eq_false hk
    have a2 : (v.f0 == 4) = false := by simpa using hk
    have a3 : (v.f0 != 4) = true := by simpa using hk
    clear HNO HYES
    go_wp2
    (try simp only [Exit.inBlock, Exit.then]); refine bodyPost_ret (results_ct rfl _ _ _ 55 _ (0, 0) _ rfl (stored10 kR _ _ _ _ _ _ _ _ _ _) Try.underlying55 rfl (by kernel_rfl)) rfl ?_
    exact VOut.no (below10 b1 (by omega) _ _ _ _ _ _ _ _ _ _) HN.out
def fieldT (v : Ty) (s : ByteArray) : Option Ty := if v.f0 = 8 ∧ 0 ≤ pix v.f3 s ∧ pix v.f3 s < (v.f4.length : Int) then some (v.f4.getD (pix v.f3 s).toNat z25) else none
theorem fieldT_no {v : Ty} {s : ByteArray} (h : ¬ (v.f0 = 8 ∧ 0 ≤ pix v.f3 s ∧ pix v.f3 s < (v.f4.length : Int))) : fieldT v s = none := if_neg h
theorem fieldT_yes {v : Ty} {s : ByteArray} {i : Nat} (h0 : v.f0 = 8) (h1 : pix v.f3 s = (i : Int)) (hi : i < v.f4.length) : fieldT v s = some v.f4[i] := by
  unfold fieldT
  rw [if_pos ⟨h0, by omega, by omega⟩, h1, Int.toNat_natCast, List.getD_eq_getElem?_getD, List.getElem?_eq_getElem hi]; rfl
set_option maxHeartbeats 4000000 in
set_option maxRecDepth 100000 in
theorem fieldT_c (v : Ty) (s : ByteArray) {ok : Nat → Prop} {A3 A4 : Option Addr} {c3 c4 : Nat} {w : World} (hok : ∀ k, ok k → k < w.heap.size) (hl7 : v.f3.length ≤ 140737488351232) (hv : FT w ok v A3 c3 A4 c4) :
    Calls Try.prog 112 #[tv v A3 c3 A4 c4, .string s] w (TOut w ok (fieldT v s)) := by
  have kV := blk_new w (.cells (tarr v A3 c3 A4 c4) 25)
  have kR := blk_new (w.alloc (.cells (tarr v A3 c3 A4 c4) 25)) (.cells #[.int .i64 0, .int .i64 0, .string ⟨#[]⟩, .slice none 0 0, .slice none 0 0] 25)
  rw [World.size_alloc] at kR
  replace kV := blk_alloc kV (.cells #[.int .i64 0, .int .i64 0, .string ⟨#[]⟩, .slice none 0 0, .slice none 0 0] 25)
  have b0 := chain (below_alloc1 w (.cells (tarr v A3 c3 A4 c4) 25)) (below_alloc1 (w.alloc (.cells (tarr v A3 c3 A4 c4) 25)) (.cells #[.int .i64 0, .int .i64 0, .string ⟨#[]⟩, .slice none 0 0, .slice none 0 0] 25))
  obtain ⟨⟨v0, v1, v2, v3, v4⟩, _, lv⟩ := five kV
  have hv0 := hv.below b0
  have HNO : Aside0 (¬ (v.f0 = 8 ∧ 0 ≤ pix v.f3 s ∧ pix v.f3 s < (v.f4.length : Int)) → fieldT v s = none) := ⟨fieldT_no⟩
  have HYES : Aside0 (∀ i : Nat, (hi : i < v.f4.length) → v.f0 = 8 → pix v.f3 s = (i : Int) → fieldT v s = some v.f4[i]) := ⟨fun i hi h0 h1 => fieldT_yes h0 h1 hi⟩
  have hge := pix_ge v.f3 s
  have hlt := pix_lt v.f3 s
  go_enter Try.func112, Try.ntmps112
  go_wp2_with fail
  refine (index_c v.f3 s hl7 (Kd.F_now hv0.2.1) hv.1).mono ?_
  rintro e w1 ⟨rfl, hb⟩
  have b1 := chain b0 hb
  replace kV := blk_up hb kV
  replace kR := blk_up hb kR
  replace hv0 := hv0.below hb
  clear v0 v1 v2 v3 v4 lv
  clear hb b0
  obtain ⟨⟨v0, v1, v2, v3, v4⟩, _, lv⟩ := five kV
  obtain ⟨⟨r0, r1, r2, r3, r4⟩, ⟨s0, s1, s2, s3, s4⟩, lr⟩ := five kR
  generalize pix v.f3 s = ix at *
  generalize fieldT v s = o at *
  by_cases hk : v.f0 = 8
  · by_cases h0 : ix < 0
    · have HN := Aside0.mk (HNO.out (fun h => by omega))
      have a1 : decide (v.f0 = 8) = true := decide_eq_true hk
      have a2 : (v.f0 == 8) = true := by simpa using hk
      have a3 : (v.f0 != 8) = false := by simpa using hk
      have d1 : decide (ix < 0) = true := decide_eq_true h0
      clear hk HNO HYES
      go_wp2
      (try simp only [Exit.inBlock, Exit.then]); refine bodyPost_ret (results_ct rfl _ _ _ 25 _ (0, 0) _ rfl (stored kR _ _ _ _ _) Try.underlying25 rfl (by kernel_rfl)) rfl ?_
      exact TOut.no (below_stored b1 (by omega) _ _ _ _ _) HN.out
    have d1 : decide (ix < 0) = false := decide_eq_false h0
    obtain ⟨i, rfl⟩ : ∃ i : Nat, ix = (i : Int) := ⟨ix.toNat, by omega⟩
    by_cases hi : i < v.f4.length
    · have HN := Aside0.mk (HYES.out i hi hk rfl)
      have a1 : decide (v.f0 = 8) = true := decide_eq_true hk
      have a2 : (v.f0 == 8) = true := by simpa using hk
      have a3 : (v.f0 != 8) = false := by simpa using hk
      have d2 : decide ((v.f4.length : Int) ≤ (i : Int)) = false := decide_eq_false (by omega)
      have d3 : decide (v.f4.length ≤ i) = false := decide_eq_false (by omega)
      have i0 : (0 : Int) ≤ (i : Int) := by omega
      have i1 : (i : Int) < (v.f4.length : Int) := by omega
      obtain ⟨ad, X3, e3, X4, e4, hA, fx, x0, x1, x2, x3, x4⟩ := elt hv0.2.2.2 i hi
      subst hA
      generalize v.f4[i] = y at *
      clear hk HNO HYES
      go_wp2
      (try simp only [Exit.inBlock, Exit.then]); refine bodyPost_ret (results_ct rfl _ _ _ 25 _ (0, 0) _ rfl (stored kR _ _ _ _ _) Try.underlying25 rfl (by kernel_rfl)) rfl ?_
      exact TOut.yes (below_stored b1 (by omega) _ _ _ _ _) HN.out (fx.stored (fun k hk => by have := hok k hk; omega) _ _ _ _ _)
    · have HN := Aside0.mk (HNO.out (fun h => by omega))
      have a1 : decide (v.f0 = 8) = true := decide_eq_true hk
      have a2 : (v.f0 == 8) = true := by simpa using hk
      have a3 : (v.f0 != 8) = false := by simpa using hk
      have d2 : decide ((v.f4.length : Int) ≤ (i : Int)) = true := decide_eq_true (by omega)
      have d3 : decide (v.f4.length ≤ i) = true := decide_eq_true (by omega)
      clear hk HNO HYES
      go_wp2
      (try simp only [Exit.inBlock, Exit.then]); refine bodyPost_ret (results_ct rfl _ _ _ 25 _ (0, 0) _ rfl (stored kR _ _ _ _ _) Try.underlying25 rfl (by kernel_rfl)) rfl ?_
      exact TOut.no (below_stored b1 (by omega) _ _ _ _ _) HN.out
  · have HN := Aside0.mk (HNO.out (fun h => hk h.1))
    have a1 : decide (v.f0 = 8) = false := decide_eq_false hk
    have a2 : (v.f0 == 8) = false := by simpa using hk
    have a3 : (v.f0 != 8) = true := by simpa using hk
    clear HNO HYES
    go_wp2
    (try simp only [Exit.inBlock, Exit.then]); refine bodyPost_ret (results_ct rfl _ _ _ 25 _ (0, 0) _ rfl (stored kR _ _ _ _ _) Try.underlying25 rfl (by kernel_rfl)) rfl ?_
    exact TOut.no (below_stored b1 (by omega) _ _ _ _ _) HN.out
end Go.Proofs.Ytnfnhjhnfdkinaa.PConvBack
namespace Go.Proofs.Ytnfnhjhnfdkinaa.PConvBack
open Go.RowKit Go.Proofs.YtnfnhjhnfdkinaaW.Mine Go.Proofs.YtnfnhjhnfdkinaaW.PrintWords Go.Proofs.YtnfnhjhnfdkinaaW.PrintLast Go.Proofs.YtnfnhjhnfdkinaaW.PrintMore
attribute [local go_sem] max2_int min2_int max_two min_two max_three min_three max_four min_four
set_option linter.unusedVariables false
set_option linter.unusedSimpArgs false
/-- Lists as long as there may be, at each place of a value. -/
inductive Okv : Vl → Prop
  | mk (x : Vl) (h6 : x.f6.length * 80 ≤ 140737488351232) (ht : ∀ y, y ∈ x.f6 → Okt y) (h7 : x.f7.length ≤ 140737488351232) (h8 : x.f8.length * 144 ≤ 140737488351232) (hs : ∀ y, y ∈ x.f8 → Okv y) : Okv x
theorem Okv.parts {x : Vl} (h : Okv x) : x.f6.length * 80 ≤ 140737488351232 ∧ (∀ y, y ∈ x.f6 → Okt y) ∧ x.f7.length ≤ 140737488351232 ∧ x.f8.length * 144 ≤ 140737488351232 ∧ (∀ y, y ∈ x.f8 → Okv y) := by
  cases h with
  | mk _ a b c d e => exact ⟨a, b, c, d, e⟩
def partV (f : Vl → Ty → Option Vl) (v : Vl) (p : Ty) (s : ByteArray) : Option Vl := match fieldV v s with
  | none => none
  | some x => match fieldT p s with
    | none => none
    | some t => f x t
def partsV (f : Vl → Ty → Option Vl) (v : Vl) (p : Ty) : List ByteArray → Option (List Vl)
  | [] => some []
  | s :: l => match partV f v p s with
    | none => none
    | some k => match partsV f v p l with
      | none => none
      | some ks => some (k :: ks)
def recordV (f : Vl → Ty → Option Vl) (v : Vl) (p : Ty) : Option Vl := match partsV f v p p.f3 with
  | none => none
  | some ks => some ⟨4, 0, 0, false, ⟨#[]⟩, z52, [], p.f3, ks⟩
def turnV (lo up : Int) (inn : Bool) : Nat → Vl → Ty → Option Vl
  | 0, _, _ => none
  | k + 1, v, p => if hasB lo up p = true then (if p.f0 = 9 then sealV inn v p.f1 else if p.f0 = 7 then functionV lo up inn v p else if p.f0 = 8 then recordV (turnV lo up inn k) v p else none) else some v
/-- turn answers f of p and whatever value. -/
def TurnC (lo up : Int) (inn : Bool) (f : Vl → Ty → Option Vl) (p : Ty) : Prop := ∀ (v : Vl), Okv v → ∀ (ok : Nat → Prop) (A6 : Option Addr) (c6 : Nat) (A7 : Option Addr) (c7 : Nat) (A8 : Option Addr) (c8 : Nat) (A3 : Option Addr) (c3 : Nat) (A4 : Option Addr) (c4 : Nat) (w : World), (∀ k, ok k → k < w.heap.size) → FV w ok v A6 c6 A7 c7 A8 c8 → FT w ok p A3 c3 A4 c4 →
  Calls Try.prog 81 #[wy lo up inn, vv v A6 c6 A7 c7 A8 c8, tv p A3 c3 A4 c4] w (VOut w (fun k => ok k ∨ w.heap.size ≤ k) (f v p))
theorem fieldV_mem {v x : Vl} {s : ByteArray} (h : fieldV v s = some x) : x ∈ v.f8 := by
  unfold fieldV at h
  split at h
  · rename_i hc
    have hi : (pix v.f7 s).toNat < v.f8.length := by omega
    rw [List.getD_eq_getElem?_getD, List.getElem?_eq_getElem hi] at h
    injection h with h
    subst h
    exact List.getElem_mem hi
  · cases h
theorem fieldT_mem {v x : Ty} {s : ByteArray} (h : fieldT v s = some x) : x ∈ v.f4 := by
  unfold fieldT at h
  split at h
  · rename_i hc
    have hi : (pix v.f3 s).toNat < v.f4.length := by omega
    rw [List.getD_eq_getElem?_getD, List.getElem?_eq_getElem hi] at h
    injection h with h
    subst h
    exact List.getElem_mem hi
  · cases h
set_option maxHeartbeats 8000000 in
set_option maxRecDepth 100000 in
theorem part_c (lo up : Int) (inn : Bool) (f : Vl → Ty → Option Vl) (v : Vl) (p : Ty) (ov : Okv v) (op : Okt p) (hT : ∀ t, t ∈ p.f4 → TurnC lo up inn f t) (s : ByteArray) {ok : Nat → Prop} {A6 A7 A8 A3 A4 : Option Addr} {c6 c7 c8 c3 c4 gV gP gW : Nat} {w : World} (hok : ∀ k, ok k → k < w.heap.size)
    (kV : w.heap[gV]? = some (.cells (vcells v A6 c6 A7 c7 A8 c8) 55 (0, 0))) (kP : w.heap[gP]? = some (.cells (tarr p A3 c3 A4 c4) 25 (0, 0))) (kW : w.heap[gW]? = some (.cells (wcells lo up inn) 92 (0, 0)))
    (hv : FV w ok v A6 c6 A7 c7 A8 c8) (hp : FT w ok p A3 c3 A4 c4) :
    Calls Try.prog 110 #[.string s, .pointer (some ⟨gV, 0, none⟩), .pointer (some ⟨gP, 0, none⟩), .pointer (some ⟨gW, 0, none⟩)] w (VOut w (fun k => ok k ∨ w.heap.size ≤ k) (partV f v p s)) := by
  have lV := blk_lt kV
  have lP := blk_lt kP
  have lW := blk_lt kW
  have kR := blk_new w (.cells zcells 55)
  have b0 := below_alloc1 w (.cells zcells 55)
  replace kV := blk_up b0 kV
  replace kP := blk_up b0 kP
  replace kW := blk_up b0 kW
  have hv0 := hv.below b0
  have hp0 := hp.below b0
  obtain ⟨⟨v0, v1, v2, v3, v4, v5, v6, v7, v8, v9⟩, _, lv⟩ := ten kV
  have hq : partV f v p s = match fieldV v s with
    | none => none
    | some x => match fieldT p s with
      | none => none
      | some t => f x t := rfl
  generalize partV f v p s = o at hq ⊢
  have HQ := Aside0.mk hq
  have HT := Aside0.mk hT
  have l7 := ov.parts.2.2.1
  have l3 := op.l3
  have W0 : w.heap.size < (w.alloc (.cells zcells 55)).heap.size := by rw [World.size_alloc]; omega
  have hok0 : ∀ k, ok k → k < (w.alloc (.cells zcells 55)).heap.size := fun k hk => Nat.lt_trans (hok k hk) W0
  have HOK0 := Aside0.mk hok0
  have SW0 := Aside0.mk W0
  clear hq hT hok0 W0
  go_enter Try.func110, Try.ntmps110
  go_wp2_with fail
  refine (fieldV_c v s HOK0.out l7 hv0).mono ?_
  clear v0 v1 v2 v3 v4 v5 v6 v7 v8 v9 lv
  cases hx : fieldV v s with
  | none =>
    rintro e w1 ⟨hb1, rfl⟩
    have HN : Aside0 (o = none) := ⟨by rw [HQ.out, hx]⟩
    clear hx HQ
    have b1 := chain b0 hb1
    have kX := blk_new w1 (.cells (vcells zV none 0 none 0 none 0) 55)
    have bX := below_alloc1 w1 (.cells (vcells zV none 0 none 0 none 0) 55)
    have b2 := chain b1 bX
    replace kV := blk_up bX (blk_up hb1 kV)
    replace kP := blk_up bX (blk_up hb1 kP)
    replace kW := blk_up bX (blk_up hb1 kW)
    replace kR := blk_up bX (blk_up hb1 kR)
    replace hp0 := (hp0.below hb1).below bX
    have HOK1 : Aside0 (∀ k, ok k → k < (w1.alloc (.cells (vcells zV none 0 none 0 none 0) 55)).heap.size) := ⟨fun k hk => Nat.lt_of_lt_of_le (HOK0.out k hk) (Nat.le_trans hb1.size bX.size)⟩
    clear hb1 b0 b1 bX hv0
    obtain ⟨⟨p0, p1, p2, p3, p4⟩, _, lp⟩ := five kP
    go_wp2_with fail
    refine (fieldT_c p s HOK1.out l3 hp0).mono ?_
    have key : ∀ (e : Ending) (w3 : World), TOut (w1.alloc (.cells (vcells zV none 0 none 0 none 0) 55)) ok (fieldT p s) e w3 → ∃ (t : Ty) (b : Bool) (B3 : Option Addr) (d3 : Nat) (B4 : Option Addr) (d4 : Nat), e = .returned (.tuple #[tv t B3 d3 B4 d4, .bool b]) ∧ Below (w1.alloc (.cells (vcells zV none 0 none 0 none 0) 55)).heap.size (w1.alloc (.cells (vcells zV none 0 none 0 none 0) 55)) w3 := fun e w3 h => by
      cases ht : fieldT p s with
      | none => rw [ht] at h; exact ⟨z25, false, none, 0, none, 0, h.2, h.1⟩
      | some t => rw [ht] at h; obtain ⟨hb, B3, d3, B4, d4, he, _⟩ := h; exact ⟨t, true, B3, d3, B4, d4, he, hb⟩
    intro e w3 h3
    obtain ⟨t, b, B3, d3, B4, d4, rfl, hb3⟩ := key e w3 h3
    clear key h3 p0 p1 p2 p3 p4 lp
    have b3 := chain b2 hb3
    replace kX := blk_up hb3 kX
    replace kR := blk_up hb3 kR
    clear hb3 b2 kV kP kW
    have kT := blk_new w3 (.cells (tarr t B3 d3 B4 d4) 25)
    have bT := below_alloc1 w3 (.cells (tarr t B3 d3 B4 d4) 25)
    have b4 := chain b3 bT
    replace kR := blk_up bT kR
    clear b3 bT kX kT
    obtain ⟨⟨r0, r1, r2, r3, r4, r5, r6, r7, r8, r9⟩, ⟨s0, s1, s2, s3, s4, s5, s6, s7, s8, s9⟩, lr⟩ := ten kR
    go_wp2
    (try simp only [Exit.inBlock, Exit.then]); refine bodyPost_ret (results_ct rfl _ _ _ 55 _ (0, 0) _ rfl (stored10 kR _ _ _ _ _ _ _ _ _ _) Try.underlying55 rfl (by kernel_rfl)) rfl ?_
    exact VOut.no (below10 b4 (Nat.le_refl _) _ _ _ _ _ _ _ _ _ _) HN.out
  | some x =>
    rintro e w1 ⟨hb1, X6, e6, X7, e7, X8, e8, rfl, hfx⟩
    have ox := ov.parts.2.2.2.2 x (fieldV_mem hx)
    have HQ1 : Aside0 (o = match fieldT p s with
      | none => none
      | some t => f x t) := ⟨by rw [HQ.out, hx]⟩
    clear hx HQ
    have b1 := chain b0 hb1
    have kX := blk_new w1 (.cells (vcells x X6 e6 X7 e7 X8 e8) 55)
    have bX := below_alloc1 w1 (.cells (vcells x X6 e6 X7 e7 X8 e8) 55)
    have b2 := chain b1 bX
    replace kP := blk_up bX (blk_up hb1 kP)
    replace kW := blk_up bX (blk_up hb1 kW)
    replace kR := blk_up bX (blk_up hb1 kR)
    replace hp0 := (hp0.below hb1).below bX
    replace hfx := hfx.below bX
    have HOK1 : Aside0 (∀ k, ok k → k < (w1.alloc (.cells (vcells x X6 e6 X7 e7 X8 e8) 55)).heap.size) := ⟨fun k hk => Nat.lt_of_lt_of_le (HOK0.out k hk) (Nat.le_trans hb1.size bX.size)⟩
    clear hb1 b0 b1 bX hv0 kV
    obtain ⟨⟨p0, p1, p2, p3, p4⟩, _, lp⟩ := five kP
    go_wp2_with fail
    refine (fieldT_c p s HOK1.out l3 hp0).mono ?_
    clear p0 p1 p2 p3 p4 lp
    cases ht : fieldT p s with
    | none =>
      rintro e w3 ⟨hb3, rfl⟩
      have HN : Aside0 (o = none) := ⟨by rw [HQ1.out, ht]⟩
      clear ht HQ1
      have b3 := chain b2 hb3
      replace kR := blk_up hb3 kR
      have kT := blk_new w3 (.cells (tarr z25 none 0 none 0) 25)
      have bT := below_alloc1 w3 (.cells (tarr z25 none 0 none 0) 25)
      have b4 := chain b3 bT
      replace kR := blk_up bT kR
      clear b3 bT kX kT hb3 b2 kP kW
      obtain ⟨⟨r0, r1, r2, r3, r4, r5, r6, r7, r8, r9⟩, ⟨s0, s1, s2, s3, s4, s5, s6, s7, s8, s9⟩, lr⟩ := ten kR
      go_wp2
      (try simp only [Exit.inBlock, Exit.then]); refine bodyPost_ret (results_ct rfl _ _ _ 55 _ (0, 0) _ rfl (stored10 kR _ _ _ _ _ _ _ _ _ _) Try.underlying55 rfl (by kernel_rfl)) rfl ?_
      exact VOut.no (below10 b4 (Nat.le_refl _) _ _ _ _ _ _ _ _ _ _) HN.out
    | some t =>
      rintro e w3 ⟨hb3, B3, d3, B4, d4, rfl, hft⟩
      have HN : Aside0 (o = f x t) := ⟨by rw [HQ1.out, ht]⟩
      have cT := HT.out t (fieldT_mem ht)
      clear ht HQ1 HT
      have b3 := chain b2 hb3
      replace kR := blk_up hb3 kR
      replace kX := blk_up hb3 kX
      replace kW := blk_up hb3 kW
      replace hfx := hfx.below hb3
      have kT := blk_new w3 (.cells (tarr t B3 d3 B4 d4) 25)
      have bT := below_alloc1 w3 (.cells (tarr t B3 d3 B4 d4) 25)
      have b4 := chain b3 bT
      replace kR := blk_up bT kR
      replace kX := blk_up bT kX
      replace kW := blk_up bT kW
      replace hfx := hfx.below bT
      replace hft := hft.below bT
      have HOK2 : Aside0 (∀ k, ok k → k < (w3.alloc (.cells (tarr t B3 d3 B4 d4) 25)).heap.size) := ⟨fun k hk => Nat.lt_of_lt_of_le (HOK1.out k hk) (Nat.le_trans hb3.size bT.size)⟩
      have SZ4 := Aside0.mk (blk_lt kR)
      clear b3 bT hb3 b2 kP
      have CT := Aside0.mk (cT x ox ok X6 e6 X7 e7 X8 e8 B3 d3 B4 d4 _ HOK2.out hfx hft)
      clear cT
      obtain ⟨⟨x0, x1, x2, x3, x4, x5, x6, x7, x8, x9⟩, _, lx⟩ := ten kX
      obtain ⟨⟨y0, y1, y2⟩, _, ly⟩ := three kW
      obtain ⟨⟨t0, t1, t2, t3, t4⟩, _, lt⟩ := five kT
      go_wp2_with fail
      refine CT.out.mono ?_
      clear x0 x1 x2 x3 x4 x5 x6 x7 x8 x9 lx y0 y1 y2 ly t0 t1 t2 t3 t4 lt CT
      have HN' := HN.out
      clear HN
      rw [← HN']
      clear HN'
      cases o with
      | none =>
        rintro e w5 ⟨hb5, rfl⟩
        have b5 := chain b4 hb5
        replace kR := blk_up hb5 kR
        clear hb5 b4 kX kW kT
        obtain ⟨⟨r0, r1, r2, r3, r4, r5, r6, r7, r8, r9⟩, ⟨s0, s1, s2, s3, s4, s5, s6, s7, s8, s9⟩, lr⟩ := ten kR
        go_wp2
        (try simp only [Exit.inBlock, Exit.then]); refine bodyPost_ret (results_ct rfl _ _ _ 55 _ (0, 0) _ rfl (stored10 kR _ _ _ _ _ _ _ _ _ _) Try.underlying55 rfl (by kernel_rfl)) rfl ?_
        exact VOut.no (below10 b5 (Nat.le_refl _) _ _ _ _ _ _ _ _ _ _) rfl
      | some u =>
        rintro e w5 ⟨hb5, U6, g6, U7, g7, U8, g8, rfl, hu⟩
        have b5 := chain b4 hb5
        replace kR := blk_up hb5 kR
        have hlR := blk_lt kR
        clear hb5 b4 kX kW kT
        obtain ⟨⟨r0, r1, r2, r3, r4, r5, r6, r7, r8, r9⟩, ⟨s0, s1, s2, s3, s4, s5, s6, s7, s8, s9⟩, lr⟩ := ten kR
        have HU := Aside0.mk hu
        clear hu
        go_wp2
        (try simp only [Exit.inBlock, Exit.then]); refine bodyPost_ret (results_ct rfl _ _ _ 55 _ (0, 0) _ rfl (stored10 kR _ _ _ _ _ _ _ _ _ _) Try.underlying55 rfl (by kernel_rfl)) rfl ?_
        have z1 := SW0.out
        have hgt : ∀ k, (w3.alloc (.cells (tarr t B3 d3 B4 d4) 25)).heap.size ≤ k → w.heap.size < k := fun k hk => by have := SZ4.out; omega
        exact VOut.yes (below10 b5 (Nat.le_refl _) _ _ _ _ _ _ _ _ _ _) rfl ((HU.out.stored (fun k hk => by rcases hk with hk | hk; (have := hok k hk; omega); (have := hgt k hk; omega)) _ _ _ _ _ _ _ _ _ _).mono (fun k hk => by rcases hk with hk | hk; exact .inl hk; exact .inr (by have := hgt k hk; omega)))
end Go.Proofs.Ytnfnhjhnfdkinaa.PConvBack
namespace Go.Proofs.Ytnfnhjhnfdkinaa.PConvBack
open Go.RowKit Go.Proofs.YtnfnhjhnfdkinaaW.Mine Go.Proofs.YtnfnhjhnfdkinaaW.PrintWords Go.Proofs.YtnfnhjhnfdkinaaW.PrintLast Go.Proofs.YtnfnhjhnfdkinaaW.PrintMore
attribute [local go_sem] max2_int min2_int max_two min_two max_three min_three max_four min_four
set_option linter.unusedVariables false
set_option linter.unusedSimpArgs false
theorem infoV : (Try.prog.info? 55).map (fun i => (i.zero, i.size, i.bytes)) = some (some (.agg #[(.int .i64 0), (.int .i64 0), (.int .i64 0), (.bool false), (.string ⟨#[]⟩), (.string ⟨#[]⟩), (.int .i64 0), (.slice none 0 0), (.slice none 0 0), (.slice none 0 0)]), 10, 144) := by kernel_rfl
theorem partsV_len {f : Vl → Ty → Option Vl} {v : Vl} {p : Ty} : ∀ {l : List ByteArray} {xs : List Vl}, partsV f v p l = some xs → xs.length = l.length
  | [], xs, h => by simp only [partsV] at h; injection h with h; subst h; rfl
  | s :: l, xs, h => by
    simp only [partsV] at h
    cases h1 : partV f v p s with
    | none => rw [h1] at h; cases h
    | some k =>
      cases h2 : partsV f v p l with
      | none => rw [h1, h2] at h; cases h
      | some ks => rw [h1, h2] at h; injection h with h; subst h; simp [partsV_len h2]
theorem partsV_snoc {f : Vl → Ty → Option Vl} {v : Vl} {p : Ty} {s : ByteArray} {k : Vl} (hk : partV f v p s = some k) : ∀ {l : List ByteArray} {xs : List Vl}, partsV f v p l = some xs → partsV f v p (l ++ [s]) = some (xs ++ [k])
  | [], xs, h => by simp only [partsV] at h; injection h with h; subst h; simp only [List.nil_append, partsV, hk]
  | a :: l, xs, h => by
    simp only [partsV] at h
    cases h1 : partV f v p a with
    | none => rw [h1] at h; cases h
    | some b =>
      cases h2 : partsV f v p l with
      | none => rw [h1, h2] at h; cases h
      | some ks => rw [h1, h2] at h; injection h with h; subst h; simp only [List.cons_append, partsV, h1, partsV_snoc hk h2]
theorem partsV_fail {f : Vl → Ty → Option Vl} {v : Vl} {p : Ty} {s : ByteArray} (hk : partV f v p s = none) (r : List ByteArray) : ∀ {l : List ByteArray} {xs : List Vl}, partsV f v p l = some xs → partsV f v p (l ++ s :: r) = none
  | [], xs, h => by simp only [List.nil_append, partsV, hk]
  | a :: l, xs, h => by
    simp only [partsV] at h
    cases h1 : partV f v p a with
    | none => rw [h1] at h; cases h
    | some b =>
      cases h2 : partsV f v p l with
      | none => rw [h1, h2] at h; cases h
      | some ks => simp only [List.cons_append, partsV, h1, partsV_fail hk r h2]
theorem take_snoc {α : Type} {l : List α} {i : Nat} (h : i < l.length) : l.take (i + 1) = l.take i ++ [l[i]] := by rw [List.take_add_one, List.getElem?_eq_getElem h]; rfl
theorem selt {w : World} {A : Option Addr} {l : List ByteArray} (h : Kd.string.C w A l.length l) (i : Nat) (hi : i < l.length) : ∃ ad, A = some ad ∧ w.cell? (ad.add i) = some (.string l[i]) := by
  obtain ⟨ad, e, hc⟩ := Kd.at_string h (i : Int) (by omega) (by omega)
  rw [Int.toNat_natCast] at hc
  exact ⟨ad, e, by rw [hc]; unfold rdOf; rw [Int.toNat_natCast, List.getD_eq_getElem?_getD, List.getElem?_eq_getElem hi]; rfl⟩
abbrev ocells (n : Nat) (A3 : Option Addr) (c3 : Nat) (A : Option Addr) (m c : Nat) : Array Value := #[.int .i64 4, .int .i64 0, .int .i64 0, .bool false, .string ⟨#[]⟩, .string ⟨#[]⟩, .int .i64 0, .slice none 0 0, .slice A3 n c3, .slice A m c]
set_option maxHeartbeats 16000000 in
set_option maxRecDepth 100000 in
theorem record_c (lo up : Int) (inn : Bool) (f : Vl → Ty → Option Vl) (v : Vl) (p : Ty) (ov : Okv v) (op : Okt p) (hT : ∀ t, t ∈ p.f4 → TurnC lo up inn f t) {ok : Nat → Prop} {A6 A7 A8 A3 A4 : Option Addr} {c6 c7 c8 c3 c4 : Nat} {w : World} (hok : ∀ k, ok k → k < w.heap.size) (hl : p.f3.length * 144 ≤ 140737488351232)
    (hv : FV w ok v A6 c6 A7 c7 A8 c8) (hp : FT w ok p A3 c3 A4 c4) :
    Calls Try.prog 100 #[wy lo up inn, vv v A6 c6 A7 c7 A8 c8, tv p A3 c3 A4 c4] w (VOut w (fun k => ok k ∨ w.heap.size ≤ k) (recordV f v p)) := by
  obtain ⟨⟨kW, kV, kP, kR⟩, b0, sz0⟩ := fourb w (wcells lo up inn) (vcells v A6 c6 A7 c7 A8 c8) (tarr p A3 c3 A4 c4) zcells 92 55 25 55
  have kO := blk_new ((((w.alloc (.cells (wcells lo up inn) 92)).alloc (.cells (vcells v A6 c6 A7 c7 A8 c8) 55)).alloc (.cells (tarr p A3 c3 A4 c4) 25)).alloc (.cells zcells 55)) (.cells (ocells p.f3.length A3 c3 none 0 0) 55)
  have bO := below_alloc1 ((((w.alloc (.cells (wcells lo up inn) 92)).alloc (.cells (vcells v A6 c6 A7 c7 A8 c8) 55)).alloc (.cells (tarr p A3 c3 A4 c4) 25)).alloc (.cells zcells 55)) (.cells (ocells p.f3.length A3 c3 none 0 0) 55)
  rw [sz0] at kO
  obtain ⟨⟨p0, p1, p2, p3, p4⟩, _, lp⟩ := five kP
  have hq : recordV f v p = match partsV f v p p.f3 with
    | none => none
    | some ks => some ⟨4, 0, 0, false, ⟨#[]⟩, z52, [], p.f3, ks⟩ := rfl
  generalize recordV f v p = o at hq ⊢
  have HQ := Aside0.mk hq
  have HT := Aside0.mk hT
  have OV := Aside0.mk ov
  have OP := Aside0.mk op
  have l3 := op.l3
  replace kW := blk_up bO kW
  replace kV := blk_up bO kV
  replace kP := blk_up bO kP
  replace kR := blk_up bO kR
  have b1 := chain b0 bO
  have KS := Aside0.mk (⟨kW, kV, kP, kR, kO, b1⟩ : _ ∧ _ ∧ _ ∧ _ ∧ _ ∧ _)
  have HV := Aside0.mk hv
  have HP := Aside0.mk hp
  have HOK := Aside0.mk hok
  have HL := Aside0.mk hl
  clear hq hT ov op kW kV kP kR kO b1 b0 bO hv hp hok hl sz0
  go_enter Try.func100, Try.ntmps100
  go_wp2_with fail
  refine wp_scope_straight ?_
  go_wp2_with fail
  refine wp_label ?_
  go_wp2_with fail
  go_loopg [21] p.f3.length (fun kq v21 w' => ∃ (i : Nat) (xs : List Vl) (A : Option Addr) (c : Nat), v21 = .int .i64 i ∧ kq + i = p.f3.length ∧ Aside0 (xs.length = i) ∧ Aside0 (partsV f v p (p.f3.take i) = some xs) ∧ Kd.N kVl 55 w' (w.heap.size + 1 + 1 + 1 + 1 + 1) (fun k => ok k ∨ w.heap.size + 1 + 1 + 1 + 1 < k) (.slice A xs.length c) xs ∧ w'.heap[w.heap.size]? = some (.cells (wcells lo up inn) 92 (0, 0)) ∧ w'.heap[w.heap.size + 1]? = some (.cells (vcells v A6 c6 A7 c7 A8 c8) 55 (0, 0)) ∧ w'.heap[w.heap.size + 1 + 1]? = some (.cells (tarr p A3 c3 A4 c4) 25 (0, 0)) ∧ w'.heap[w.heap.size + 1 + 1 + 1]? = some (.cells zcells 55 (0, 0)) ∧ w'.heap[w.heap.size + 1 + 1 + 1 + 1]? = some (.cells (ocells p.f3.length A3 c3 A xs.length c) 55 (0, 0)) ∧ Below w.heap.size w w')
  case atStart => exact ⟨0, [], none, 0, rfl, rfl, ⟨rfl⟩, ⟨rfl⟩, Kd.N_nil _ _ _ _ _, KS.out.1, KS.out.2.1, KS.out.2.2.1, KS.out.2.2.2.1, KS.out.2.2.2.2.1, KS.out.2.2.2.2.2⟩
  case round =>
    clear p0 p1 p2 p3 p4 lp KS
    obtain ⟨i, xs, A, c, rfl, hk, HXL, HXS, HO, kW, kV, kP, kR, kO, br⟩ := hrel
    by_cases hi : i < p.f3.length
    · obtain ⟨k1, rfl⟩ : ∃ k1, gk = k1 + 1 := ⟨gk - 1, by omega⟩
      have ci : decide ((i : Int) < (p.f3.length : Int)) = true := decide_eq_true (by omega)
      have i0 : (0 : Int) ≤ (i : Int) := by omega
      have i1 : (i : Int) < (p.f3.length : Int) := by omega
      obtain ⟨⟨o0, o1, o2, o3, o4, o5, o6, o7, o8, o9⟩, ⟨s0, s1, s2, s3, s4, s5, s6, s7, s8, s9⟩, lo_⟩ := ten kO
      obtain ⟨ad, hA, sx⟩ := selt (Kd.F_now HP.out.2.1) i hi
      subst hA
      replace sx := cell_up br sx
      have HK := Aside0.mk hk
      clear hk
      go_wp2_with fail
      have PC := Aside0.mk (part_c lo up inn f v p OV.out OP.out HT.out p.f3[i] (ok := ok) (fun k hk => Nat.lt_of_lt_of_le (HOK.out k hk) br.size) kV kP kW (HV.out.below br) (HP.out.below br))
      clear s0 s1 s2 s3 s4 s5 s6 s7 s8 s9 o0 o1 o2 o3 o4 o5 o6 o7 o8 o9 lo_ sx ci i0 i1
      refine PC.out.mono ?_
      clear PC
      have szr := br.size
      have hN0 := Kd.N_lt HO
      have hN1 := Kd.N_base HO
      cases hq : partV f v p p.f3[i] with
      | none =>
        have HN : Aside0 (o = none) := ⟨by
          have h1 := partsV_fail hq (p.f3.drop (i + 1)) HXS.out
          rw [← List.drop_eq_getElem_cons hi, List.take_append_drop] at h1
          rw [HQ.out, h1]⟩
        rintro e w1 ⟨hb1, rfl⟩
        clear hq HQ HO hN0 hN1
        have b1 := chain br hb1
        have bX := below_alloc1 w1 (.cells (vcells zV none 0 none 0 none 0) 55)
        have b2 := chain b1 bX
        replace kP := blk_up bX (blk_up hb1 kP)
        replace kR := blk_up bX (blk_up hb1 kR)
        replace kO := blk_up bX (blk_up hb1 kO)
        clear b1 hb1 bX br kV kW
        obtain ⟨⟨o0, o1, o2, o3, o4, o5, o6, o7, o8, o9⟩, _, lo_⟩ := ten kO
        obtain ⟨⟨p0, p1, p2, p3, p4⟩, _, lp⟩ := five kP
        obtain ⟨⟨r0, r1, r2, r3, r4, r5, r6, r7, r8, r9⟩, ⟨s0, s1, s2, s3, s4, s5, s6, s7, s8, s9⟩, lr⟩ := ten kR
        have dl0 : xs.length < p.f3.length := by have := HXL.out; omega
        have dl : decide ((xs.length : Int) < (p.f3.length : Int)) = true := decide_eq_true (by omega)
        have dl1 : decide (xs.length < p.f3.length) = true := decide_eq_true dl0
        go_wp2
        (try simp only [Exit.inBlock, Exit.then]); (try rw [Exit.noGoto_ret]); refine bodyPost_ret (results_ct rfl _ _ _ 55 _ (0, 0) _ rfl (stored10 kR _ _ _ _ _ _ _ _ _ _) Try.underlying55 rfl (by kernel_rfl)) rfl ?_
        exact VOut.no (below10 b2 (by omega) _ _ _ _ _ _ _ _ _ _) HN.out
      | some k =>
        have HXS' : Aside0 (partsV f v p (p.f3.take (i + 1)) = some (xs ++ [k])) := ⟨by rw [take_snoc hi]; exact partsV_snoc hq HXS.out⟩
        clear hq HXS
        rintro e w1 ⟨hb1, X6, e6, X7, e7, X8, e8, rfl, hfx⟩
        have hsz1 := hb1.size
        have kO0 := Aside0.mk kO
        have b1 := chain br hb1
        have kX := blk_new w1 (.cells (vcells k X6 e6 X7 e7 X8 e8) 55)
        have bX := below_alloc1 w1 (.cells (vcells k X6 e6 X7 e7 X8 e8) 55)
        have b2 := chain b1 bX
        replace kV := blk_up bX (blk_up hb1 kV)
        replace kW := blk_up bX (blk_up hb1 kW)
        replace kP := blk_up bX (blk_up hb1 kP)
        replace kR := blk_up bX (blk_up hb1 kR)
        replace kO := blk_up bX (blk_up hb1 kO)
        replace HO := Kd.N_below (Kd.N_below HO hb1) bX
        replace hfx := hfx.below bX
        clear b1 hb1 bX br
        have lX := blk_lt kX
        obtain ⟨⟨o0, o1, o2, o3, o4, o5, o6, o7, o8, o9⟩, _, lo_⟩ := ten kO
        obtain ⟨⟨x0, x1, x2, x3, x4, x5, x6, x7, x8, x9⟩, _, lx⟩ := ten kX
        have hN1' : ∀ k, (Value.slice A xs.length c).ownBlock = some k → w.heap.size + 1 + 1 + 1 + 1 < k := fun k hk => by have := hN1 k hk; omega
        have hokp : ∀ j, (ok j ∨ wr.heap.size ≤ j) → (ok j ∨ w.heap.size + 1 + 1 + 1 + 1 < j) ∧ some j ≠ (Value.slice A xs.length c).ownBlock := fun j hj => ⟨by rcases hj with hj | hj; exact .inl hj; exact .inr (by have := blk_lt kO0.out; omega), fun he => by have h1 := hN0 j he.symm; have h2 := hN1' j he.symm; rcases hj with hj | hj; (have := HOK.out j hj; omega); omega⟩
        have hbase : w.heap.size + 1 + 1 + 1 + 1 + 1 ≤ (w1.alloc (.cells (vcells k X6 e6 X7 e7 X8 e8) 55)).heap.size := by have := blk_lt kO; omega
        have hfre : ∀ j, (w1.alloc (.cells (vcells k X6 e6 X7 e7 X8 e8) 55)).heap.size ≤ j → (ok j ∨ w.heap.size + 1 + 1 + 1 + 1 < j) := fun j hj => .inr (by omega)
        have hlen : (xs ++ [k]).length = xs.length + 1 := by simp
        have hln : (xs.length + 1) * 144 ≤ 140737488355328 := by have := HL.out; have := HXL.out; omega
        have fk := hfx.fk
        have HBS := Aside0.mk hbase
        go_wp2_with (first | ((with_reducible refine gate_builtin (b := .append) (xs := #[.tmp 34, .tmp 36]) rfl ?_); at_builtin; refine Kd.N_append kVl (w0 := w1.alloc (.cells (vcells k X6 e6 X7 e7 X8 e8) 55)) (w.heap.size + 1 + 1 + 1 + 1 + 1) rfl (.tmp 34) (.tmp 36) 53 55 (.agg #[(.int .i64 0), (.int .i64 0), (.int .i64 0), (.bool false), (.string ⟨#[]⟩), (.string ⟨#[]⟩), (.int .i64 0), (.slice none 0 0), (.slice none 0 0), (.slice none 0 0)]) 144 rfl Try.underlying53 infoV rfl (by decide) (by omega) (.slice A xs.length c) xs k _ (fun j => ok j ∨ w.heap.size + 1 + 1 + 1 + 1 < j) (fun j => ok j ∨ wr.heap.size ≤ j) rfl ?qx fk hokp hfre HO (Below.refl _ _) hbase hln ?_; (case qx => rw [World.size_alloc]; rfl); intro v2 w2 hN2 hB2 hg2 hat2; obtain ⟨A2, d2, rfl⟩ := Kd.N_slice hN2; clear o0 o1 o2 o3 o4 o5 o6 o7 o8 o9 lo_ x0 x1 x2 x3 x4 x5 x6 x7 x8 x9 lx hN0 hN1 hN1' hokp hfre fk hbase HO; replace kO := (hB2.block _ (by omega)).trans kO; rw [hlen] at hN2 ⊢; obtain ⟨⟨o0, o1, o2, o3, o4, o5, o6, o7, o8, o9⟩, ⟨s0, s1, s2, s3, s4, s5, s6, s7, s8, s9⟩, lo_⟩ := ten kO))
        have kO3 := blk_put (cs' := ocells p.f3.length (some ad) c3 A2 (xs.length + 1) d2) kO 9 (.slice A2 (xs.length + 1) d2) rfl
        have kV3 := blk_far ((hB2.block _ (by omega)).trans kV) (p := ⟨w.heap.size + 1 + 1 + 1 + 1, 9, none⟩) (by dsimp only; omega) (.slice A2 (xs.length + 1) d2)
        have kP3 := blk_far ((hB2.block _ (by omega)).trans kP) (p := ⟨w.heap.size + 1 + 1 + 1 + 1, 9, none⟩) (by dsimp only; omega) (.slice A2 (xs.length + 1) d2)
        have kW3 := blk_far ((hB2.block _ (by omega)).trans kW) (p := ⟨w.heap.size + 1 + 1 + 1 + 1, 9, none⟩) (by dsimp only; omega) (.slice A2 (xs.length + 1) d2)
        have kR3 := blk_far ((hB2.block _ (by omega)).trans kR) (p := ⟨w.heap.size + 1 + 1 + 1 + 1, 9, none⟩) (by dsimp only; omega) (.slice A2 (xs.length + 1) d2)
        have hN3 := Kd.N_far hN2 (p := ⟨w.heap.size + 1 + 1 + 1 + 1, 9, none⟩) (fun j hj => by dsimp only; rcases hj with hj | hj; (have := HOK.out j hj; omega); omega) (.slice A2 (xs.length + 1) d2)
        have b3 := below_set (g := w.heap.size + 1 + 1 + 1 + 1) (j := 9) (v := .slice A2 (xs.length + 1) d2) (b2.trans (Below.mono hB2 (by omega))) (by omega)
        clear o0 o1 o2 o3 o4 o5 o6 o7 o8 o9 s0 s1 s2 s3 s4 s5 s6 s7 s8 s9 lo_ kO kV kP kW kR hN2 b2 hB2 hg2 hat2
        go_roundg k1
        case measure => omega
        case rel => exact ⟨i + 1, xs ++ [k], A2, d2, (by first | rfl | (simp; done) | (push_cast; rfl)), by have := HK.out; omega, ⟨by rw [hlen, HXL.out]⟩, HXS', by rw [hlen]; exact hN3, kW3, kV3, kP3, kR3, by rw [hlen]; exact kO3, b3⟩
    · have cn : decide ((i : Int) < (p.f3.length : Int)) = false := decide_eq_false (by omega)
      have HN : Aside0 (o = some ⟨4, 0, 0, false, ⟨#[]⟩, z52, [], p.f3, xs⟩) := ⟨by
        have h1 := HXS.out
        rw [List.take_of_length_le (by omega)] at h1
        rw [HQ.out, h1]⟩
      have dl0 : ¬ (xs.length < p.f3.length) := by have := HXL.out; omega
      have dl : decide ((xs.length : Int) < (p.f3.length : Int)) = false := decide_eq_false (by omega)
      have dl1 : decide (xs.length < p.f3.length) = false := decide_eq_false dl0
      have szr := br.size
      obtain ⟨⟨o0, o1, o2, o3, o4, o5, o6, o7, o8, o9⟩, _, lo_⟩ := ten kO
      obtain ⟨⟨p0, p1, p2, p3, p4⟩, _, lp⟩ := five kP
      obtain ⟨⟨r0, r1, r2, r3, r4, r5, r6, r7, r8, r9⟩, ⟨s0, s1, s2, s3, s4, s5, s6, s7, s8, s9⟩, lr⟩ := ten kR
      have HK := Aside0.mk hk
      clear hk HXS HQ HXL
      go_wp2
      (try simp only [Exit.inBlock, Exit.then]); (try rw [Exit.noGoto_ret]); refine bodyPost_ret (results_ct rfl _ _ _ 55 _ (0, 0) _ rfl (stored10 kR _ _ _ _ _ _ _ _ _ _) Try.underlying55 rfl (by kernel_rfl)) rfl ?_
      have hv1 := HP.out.below br
      refine VOut.yes (u := ⟨4, 0, 0, false, ⟨#[]⟩, z52, [], p.f3, xs⟩) (A6 := none) (c6 := 0) (A7 := A3) (c7 := c3) (A8 := A) (c8 := c) (below10 br (by omega) _ _ _ _ _ _ _ _ _ _) HN.out ?_
      refine (FV.stored (g := w.heap.size + 1 + 1 + 1) (ok := fun k => ok k ∨ w.heap.size + 1 + 1 + 1 + 1 < k) ⟨Nat.le_refl _, Kd.F_nil _ _ _, hv1.1, Kd.F_mono hv1.2.1 (fun k hk => .inl hk), (Kd.N_reads' HO).2.1, Kd.N_F HO⟩ (fun k hk => by rcases hk with hk | hk; (have := HOK.out k hk; omega); omega) _ _ _ _ _ _ _ _ _ _).mono (fun k hk => by rcases hk with hk | hk; exact .inl hk; exact .inr (by omega))
end Go.Proofs.Ytnfnhjhnfdkinaa.PConvBack

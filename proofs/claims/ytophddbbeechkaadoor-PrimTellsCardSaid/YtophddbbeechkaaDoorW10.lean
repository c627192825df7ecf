/-
  PrimTells: the walk.
-/
import Derived.Test.YtophddbbeechkaaDoorPPrimTellsx2
import Derived.Test.YtophddbbeechkaaDoorWB
import Derived.Test.YtophddbbeechkaaDoorW4
namespace Go.Proofs.YtophddbbeechkaaDoor.PPrimTells
open Go.RowKit Go.Proofs.YtophddbbeechkaaDoorW.PrintWords Go.Proofs.YtophddbbeechkaaDoorW.PrintLast Go.Proofs.YtophddbbeechkaaDoorW.PrintMore Go.Proofs.YtophddbbeechkaaDoorW.Mine Go.Proofs.YtophddbbeechkaaDoor.WB
attribute [local go_sem] max2_int min2_int
set_option linter.unusedVariables false
set_option linter.unusedSimpArgs false
open Go.Proofs.YtophddbbeechkaaDoor.W1 Go.Proofs.YtophddbbeechkaaDoor.W2 Go.Proofs.YtophddbbeechkaaDoor.W3 Go.Proofs.YtophddbbeechkaaDoor.W4 Go.Proofs.YtophddbbeechkaaDoor.W5
theorem ans_t (k n e : Int) (s : ByteArray) : (Ans.mk k n s e).t = .tuple #[vv k n s, .int .i64 e] := rfl
theorem ten {w : World} {g : Nat} {c0 c1 c2 c3 c4 c5 c6 c7 c8 c9 : Value} (h : w.rangeAt g 0 [c0, c1, c2, c3, c4, c5, c6, c7, c8, c9]) : w.cell? ⟨g, 0, none⟩ = some c0 ∧ w.cell? ⟨g, 1, none⟩ = some c1 ∧ w.cell? ⟨g, 2, none⟩ = some c2 ∧ w.cell? ⟨g, 3, none⟩ = some c3 ∧ w.cell? ⟨g, 4, none⟩ = some c4 ∧ w.cell? ⟨g, 5, none⟩ = some c5 ∧ w.cell? ⟨g, 6, none⟩ = some c6 ∧ w.cell? ⟨g, 7, none⟩ = some c7 ∧ w.cell? ⟨g, 8, none⟩ = some c8 ∧ w.cell? ⟨g, 9, none⟩ = some c9 :=
  ⟨range_at h rfl, range_at h rfl, range_at h rfl, range_at h rfl, range_at h rfl, range_at h rfl, range_at h rfl, range_at h rfl, range_at h rfl, range_at h rfl⟩
theorem range_new10 (w : World) (c0 c1 c2 c3 c4 c5 c6 c7 c8 c9 : Value) (t : TypeId) : (w.alloc (.cells #[c0, c1, c2, c3, c4, c5, c6, c7, c8, c9] t)).rangeAt w.heap.size 0 [c0, c1, c2, c3, c4, c5, c6, c7, c8, c9] := fun j v hv => by
  rw [World.cell?_alloc_at (w := w) (c := #[c0, c1, c2, c3, c4, c5, c6, c7, c8, c9]) (t := t) w.heap.size (0 + j) rfl, Nat.zero_add]
  simpa using hv
set_option maxHeartbeats 4000000 in
set_option maxRecDepth 100000 in
theorem tells_c (k : Nat) (a0 : Int) (a1_0 a1_1 a1_2 : Int) (a1_3 : Bool) (a1_4 a1_5 : ByteArray) (a1_6 : Int) (A1_7 : Option Addr) (c1_7 : Nat) (l1_7 : List S47) (A1_8 : Option Addr) (c1_8 : Nat) (l1_8 : List ByteArray) (A1_9 : Option Addr) (c1_9 : Nat) (l1_9 : List S28) (a2_0 a2_1 a2_2 : Int) (a2_3 : Bool) (a2_4 a2_5 : ByteArray) (a2_6 : Int) (A2_7 : Option Addr) (c2_7 : Nat) (l2_7 : List S47) (A2_8 : Option Addr) (c2_8 : Nat) (l2_8 : List ByteArray) (A2_9 : Option Addr) (c2_9 : Nat) (l2_9 : List S28) (r : Bool) (w : World)
    (hr1_7 : Kd.C k47 w A1_7 l1_7.length l1_7) (hc1_7 : l1_7.length ≤ c1_7) (hr1_8 : Kd.C Kd.string w A1_8 l1_8.length l1_8) (hc1_8 : l1_8.length ≤ c1_8) (hr1_9 : Kd.C k28 w A1_9 l1_9.length l1_9) (hc1_9 : l1_9.length ≤ c1_9)
    (hr2_7 : Kd.C k47 w A2_7 l2_7.length l2_7) (hc2_7 : l2_7.length ≤ c2_7) (hr2_8 : Kd.C Kd.string w A2_8 l2_8.length l2_8) (hc2_8 : l2_8.length ≤ c2_8) (hr2_9 : Kd.C k28 w A2_9 l2_9.length l2_9) (hc2_9 : l2_9.length ≤ c2_9) (hG : GW w)
    (h : limbecklaw32_PrimTells.f k a0 a1_0 a1_1 a1_2 a1_3 a1_4 a1_5 a1_6 l1_7 l1_8 l1_9 a2_0 a2_1 a2_2 a2_3 a2_4 a2_5 a2_6 l2_7 l2_8 l2_9 = some r) :
    Calls Tryd.prog 3 #[.int .i64 a0, .agg #[.int .i64 a1_0, .int .i64 a1_1, .int .i64 a1_2, .bool a1_3, .string a1_4, .string a1_5, .int .i64 a1_6, .slice A1_7 l1_7.length c1_7, .slice A1_8 l1_8.length c1_8, .slice A1_9 l1_9.length c1_9], .agg #[.int .i64 a2_0, .int .i64 a2_1, .int .i64 a2_2, .bool a2_3, .string a2_4, .string a2_5, .int .i64 a2_6, .slice A2_7 l2_7.length c2_7, .slice A2_8 l2_8.length c2_8, .slice A2_9 l2_9.length c2_9]] w fun e w' => e = .returned (.bool r) ∧ Below w.heap.size w w' := by
  unfold limbecklaw32_PrimTells.f at h
  obtain ⟨m1, e1, h⟩ := Option.bind_eq_some_iff.1 h
  obtain ⟨m2, e2, h⟩ := Option.bind_eq_some_iff.1 h
  have hm : a1_4.size + a2_4.size ≤ 9223372036854775807 := by
    by_cases hz : a1_4.size + a2_4.size ≤ 9223372036854775807
    · exact hz
    · rw [if_neg hz] at h; cases h
  rw [if_pos hm] at h
  obtain rfl := Option.some.inj h
  clear h
  have f0 := ((Fit.start hG).alloc (.cells #[.int .i64 a1_0, .int .i64 a1_1, .int .i64 a1_2, .bool a1_3, .string a1_4, .string a1_5, .int .i64 a1_6, .slice A1_7 l1_7.length c1_7, .slice A1_8 l1_8.length c1_8, .slice A1_9 l1_9.length c1_9] 28)).alloc (.cells #[.int .i64 a2_0, .int .i64 a2_1, .int .i64 a2_2, .bool a2_3, .string a2_4, .string a2_5, .int .i64 a2_6, .slice A2_7 l2_7.length c2_7, .slice A2_8 l2_8.length c2_8, .slice A2_9 l2_9.length c2_9] 28)
  have ra0 := range_next (range_new10 w (.int .i64 a1_0) (.int .i64 a1_1) (.int .i64 a1_2) (.bool a1_3) (.string a1_4) (.string a1_5) (.int .i64 a1_6) (.slice A1_7 l1_7.length c1_7) (.slice A1_8 l1_8.length c1_8) (.slice A1_9 l1_9.length c1_9) 28) ((Below.refl _ _).alloc (Nat.le_refl _) (.cells #[.int .i64 a2_0, .int .i64 a2_1, .int .i64 a2_2, .bool a2_3, .string a2_4, .string a2_5, .int .i64 a2_6, .slice A2_7 l2_7.length c2_7, .slice A2_8 l2_8.length c2_8, .slice A2_9 l2_9.length c2_9] 28))
  have rb0 := range_new10 (w.alloc (.cells #[.int .i64 a1_0, .int .i64 a1_1, .int .i64 a1_2, .bool a1_3, .string a1_4, .string a1_5, .int .i64 a1_6, .slice A1_7 l1_7.length c1_7, .slice A1_8 l1_8.length c1_8, .slice A1_9 l1_9.length c1_9] 28)) (.int .i64 a2_0) (.int .i64 a2_1) (.int .i64 a2_2) (.bool a2_3) (.string a2_4) (.string a2_5) (.int .i64 a2_6) (.slice A2_7 l2_7.length c2_7) (.slice A2_8 l2_8.length c2_8) (.slice A2_9 l2_9.length c2_9) 28
  simp only [World.size_alloc] at rb0
  go_enter Tryd.func3, Tryd.ntmps3
  go_wp2_with fail
  go_call (limbecklaw26_MuchVal.calls k a1_0 a1_1 a1_2 a1_3 a1_4 a1_5 a1_6 A1_7 c1_7 l1_7 A1_8 c1_8 l1_8 A1_9 c1_9 l1_9 m1 _ (Kd.C_below hr1_7 f0.bel) hc1_7 (Kd.C_below hr1_8 f0.bel) hc1_8 (Kd.C_below hr1_9 f0.bel) hc1_9 e1) as e w1 ⟨he, hb1⟩
  subst he
  have f1 := f0.next hb1
  have ra1 := range_next ra0 hb1
  have rb1 := range_next rb0 hb1
  obtain ⟨p0, p1, p2, p3, p4, p5, p6, p7, p8, p9⟩ := ten ra1
  obtain ⟨q0, q1, q2, q3, q4, q5, q6, q7, q8, q9⟩ := ten rb1
  clear ra0 rb0 f0 hb1
  by_cases h1 : 300 < m1
  · have c0 : decide (300 < m1) = true := decide_eq_true h1
    go_wp2_with fail
    go_call (awake_c w1 f1.gw) as e w2 ⟨he, hb2⟩
    subst he
    go_wp2
    go_returns
    exact ⟨rfl, (f1.next hb2).bel⟩
  have c0 : decide (300 < m1) = false := decide_eq_false h1
  go_wp2_with fail
  go_call (limbecklaw26_MuchVal.calls k a2_0 a2_1 a2_2 a2_3 a2_4 a2_5 a2_6 A2_7 c2_7 l2_7 A2_8 c2_8 l2_8 A2_9 c2_9 l2_9 m2 _ (Kd.C_below hr2_7 f1.bel) hc2_7 (Kd.C_below hr2_8 f1.bel) hc2_8 (Kd.C_below hr2_9 f1.bel) hc2_9 e2) as e w2 ⟨he, hb2⟩
  subst he
  have f2 := f1.next hb2
  have ra2 := range_next ra1 hb2
  have rb2 := range_next rb1 hb2
  clear p0 q0 p1 q1 p2 q2 p3 q3 p4 q4 p5 q5 p6 q6 p7 q7 p8 q8 p9 q9
  obtain ⟨p0, p1, p2, p3, p4, p5, p6, p7, p8, p9⟩ := ten ra2
  obtain ⟨q0, q1, q2, q3, q4, q5, q6, q7, q8, q9⟩ := ten rb2
  clear ra1 rb1 f1 hb2
  by_cases h2 : 300 < m2
  · have c1 : decide (300 < m2) = true := decide_eq_true h2
    go_wp2_with fail
    go_call (awake_c w2 f2.gw) as e w3 ⟨he, hb3⟩
    subst he
    go_wp2
    go_returns
    exact ⟨rfl, (f2.next hb3).bel⟩
  have c1 : decide (300 < m2) = false := decide_eq_false h2
  go_wp2_with fail
  obtain ⟨dk, dn, ds, de, hD⟩ : ∃ dk dn ds de, doSpec a0 a1_0 a1_1 a2_0 a2_1 a1_4 a2_4 = ⟨dk, dn, ds, de⟩ := ⟨_, _, _, _, rfl⟩
  go_call (do_c a0 a1_0 a1_1 a2_0 a2_1 a1_4 a2_4 _ _ _ _ _ _ _ _ _ _ _ _ _ _ w2 f2.gw hm) as e w3 ⟨he, hb3⟩
  rw [hD, ans_t] at he
  subst he
  have f3 := f2.next hb3
  have ra3 := range_next ra2 hb3
  have rb3 := range_next rb2 hb3
  clear p0 q0 p1 q1 p2 q2 p3 q3 p4 q4 p5 q5 p6 q6 p7 q7 p8 q8 p9 q9
  obtain ⟨p0, p1, p2, p3, p4, p5, p6, p7, p8, p9⟩ := ten ra3
  obtain ⟨q0, q1, q2, q3, q4, q5, q6, q7, q8, q9⟩ := ten rb3
  clear ra2 rb2 f2 hb3
  have la : w.heap.size < w3.heap.size := World.block_lt_of_cell? _ _ p0
  have lb : w.heap.size + 1 < w3.heap.size := World.block_lt_of_cell? _ _ q0
  go_wp2_with fail
  go_call (rdo_c a0 a1_0 a1_1 a2_0 a2_1 a1_4 a2_4 _ _ _ _ _ _ _ _ _ _ _ _ _ _ _ hm) as e w4 ⟨he, hb4⟩
  rw [hD, ans_t] at he
  subst he
  have f4 := (f3.alloc _).next hb4
  have v4 := cells_next hb4 (cells_new w3 dk dn ds 28)
  have lv : w3.heap.size < w4.heap.size := World.block_lt_of_cell? _ _ v4.1
  clear p0 q0 p1 q1 p2 q2 p3 q3 p4 q4 p5 q5 p6 q6 p7 q7 p8 q8 p9 q9 ra3 rb3 f3 hb4
  go_wp2_with fail
  go_call (same_eq dk dn dn ds ds rfl rfl _) as e w5 ⟨he, hb5⟩
  subst he
  have f5 := (f4.alloc _).next hb5
  go_wp2_with fail
  go_call (takes_c a0 w5 f5.gw) as e w6 ⟨he, hb6⟩
  subst he
  have f6 := f5.next hb6
  go_wp2_with fail
  go_call (rtakes_c a0 w6) as e w7 ⟨he, hb7⟩
  subst he
  have f7 := f6.next hb7
  go_wp2_with fail
  go_call (awake_c w7 f7.gw) as e w8 ⟨he, hb8⟩
  subst he
  go_wp2
  go_returns
  exact ⟨rfl, (f7.next hb8).bel⟩
end Go.Proofs.YtophddbbeechkaaDoor.PPrimTells

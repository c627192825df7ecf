/-
  prim: Do of any operation and any two values, said once (doSpec); limbeckref32's answers the same; two.
-/
import Derived.Test.YtophddbbeechkaaDoorW3
namespace Go.Proofs.YtophddbbeechkaaDoor.W4
open Go.RowKit Go.Proofs.YtophddbbeechkaaDoorW.PrintWords Go.Proofs.YtophddbbeechkaaDoorW.PrintLast Go.Proofs.YtophddbbeechkaaDoorW.PrintMore Go.Proofs.YtophddbbeechkaaDoorW.Mine Go.Proofs.YtophddbbeechkaaDoor.W1 Go.Proofs.YtophddbbeechkaaDoor.W2 Go.Proofs.YtophddbbeechkaaDoor.W3
attribute [local go_sem] max2_int min2_int
set_option linter.unusedVariables false
set_option linter.unusedSimpArgs false
/-- Kind, number, text and error. -/
structure Ans where
  k : Int
  n : Int
  s : ByteArray
  e : Int
def Ans.v (r : Ans) : Value := vv r.k r.n r.s
def Ans.t (r : Ans) : Value := .tuple #[r.v, .int .i64 r.e]
def doSpec (op ka na kb nb : Int) (sa sb : ByteArray) : Ans :=
  if takesTab op = 0 then ⟨0, 0, ⟨#[]⟩, 1⟩
  else if ka ≠ takesTab op ∨ kb ≠ takesTab op then ⟨0, 0, ⟨#[]⟩, 13⟩
  else if op = 1 then ⟨1, wrap64 (na + nb), ⟨#[]⟩, 0⟩
  else if op = 2 then ⟨1, wrap64 (na - nb), ⟨#[]⟩, 0⟩
  else if op = 3 then ⟨1, wrap64 (na * nb), ⟨#[]⟩, 0⟩
  else if op = 4 then (if nb = 0 then ⟨0, 0, ⟨#[]⟩, 22⟩ else ⟨1, wrap64 (na.tdiv nb), ⟨#[]⟩, 0⟩)
  else if op = 5 then ⟨3, 0, (sa ++ sb).extract 0 256, 0⟩
  else if op = 6 then ⟨2, if na < nb then 1 else 0, ⟨#[]⟩, 0⟩
  else ⟨2, if na = nb then 1 else 0, ⟨#[]⟩, 0⟩
theorem tab1 (op : Int) (h : 1 ≤ op) (h7 : op ≤ 7) (h5 : op ≠ 5) : takesTab op = 1 := by
  unfold takesTab; rw [if_neg h5, if_pos ⟨h, h7⟩]
theorem tab5 : takesTab 5 = 3 := rfl
theorem do_c (op ka na kb nb : Int) (sa sb : ByteArray) (a2 a3 a5 a6 a7 a8 a9 b2 b3 b5 b6 b7 b8 b9 : Value) (w : World) (hG : GW w) (hm : sa.size + sb.size ≤ 9223372036854775807) :
    Calls Tryd.prog 10 #[.int .i64 op, av ka na sa a2 a3 a5 a6 a7 a8 a9, av kb nb sb b2 b3 b5 b6 b7 b8 b9] w fun e w' => e = .returned (doSpec op ka na kb nb sa sb).t ∧ Below w.heap.size w w' := by
  by_cases h0 : op < 0
  · rw [show doSpec op ka na kb nb sa sb = ⟨0, 0, ⟨#[]⟩, 1⟩ by unfold doSpec; rw [if_pos (takes_out op (.inl h0))]]
    exact do_low op ka na kb nb sa sb _ _ _ _ _ _ _ _ _ _ _ _ _ _ w hG h0
  by_cases h8 : 8 ≤ op
  · rw [show doSpec op ka na kb nb sa sb = ⟨0, 0, ⟨#[]⟩, 1⟩ by unfold doSpec; rw [if_pos (takes_out op (.inr h8))]]
    exact do_high op ka na kb nb sa sb _ _ _ _ _ _ _ _ _ _ _ _ _ _ w hG h8
  by_cases hz : op = 0
  · subst hz
    rw [show doSpec 0 ka na kb nb sa sb = ⟨0, 0, ⟨#[]⟩, 1⟩ from rfl]
    exact do_none ka na kb nb sa sb _ _ _ _ _ _ _ _ _ _ _ _ _ _ w hG
  have ht0 : takesTab op ≠ 0 := by
    by_cases h5 : op = 5
    · subst h5; decide
    · rw [tab1 op (by omega) (by omega) h5]; decide
  obtain ⟨n, rfl⟩ := Int.eq_ofNat_of_zero_le (by omega : 0 ≤ op)
  by_cases hka : ¬ (ka = takesTab n)
  · rw [show doSpec n ka na kb nb sa sb = ⟨0, 0, ⟨#[]⟩, 13⟩ by unfold doSpec; rw [if_neg ht0, if_pos (.inl hka)]]
    exact do_ta n (takesTab n) ka na kb nb sa sb _ _ _ _ _ _ _ _ _ _ _ _ _ _ w hG (by omega) rfl ht0 hka
  replace hka := Classical.not_not.1 hka
  by_cases hkb : ¬ (kb = takesTab n)
  · rw [show doSpec n ka na kb nb sa sb = ⟨0, 0, ⟨#[]⟩, 13⟩ by unfold doSpec; rw [if_neg ht0, if_pos (.inr hkb)]]
    exact do_tb n (takesTab n) ka na kb nb sa sb _ _ _ _ _ _ _ _ _ _ _ _ _ _ w hG (by omega) rfl ht0 hka hkb
  replace hkb := Classical.not_not.1 hkb
  have hs : ¬ (ka ≠ takesTab n ∨ kb ≠ takesTab n) := by rintro (h | h); exact h hka; exact h hkb
  unfold doSpec
  rw [if_neg ht0, if_neg hs]
  have hn : n = 1 ∨ n = 2 ∨ n = 3 ∨ n = 4 ∨ n = 5 ∨ n = 6 ∨ n = 7 := by omega
  rcases hn with rfl | rfl | rfl | rfl | rfl | rfl | rfl
  · exact do_add ka na kb nb sa sb _ _ _ _ _ _ _ _ _ _ _ _ _ _ w hG hka hkb
  · exact do_sub ka na kb nb sa sb _ _ _ _ _ _ _ _ _ _ _ _ _ _ w hG hka hkb
  · exact do_mul ka na kb nb sa sb _ _ _ _ _ _ _ _ _ _ _ _ _ _ w hG hka hkb
  · by_cases hb : nb = 0
    · rw [if_neg (by decide), if_neg (by decide), if_neg (by decide), if_pos (by decide), if_pos hb]
      exact do_zero ka na kb nb sa sb _ _ _ _ _ _ _ _ _ _ _ _ _ _ w hG hka hkb hb
    · rw [if_neg (by decide), if_neg (by decide), if_neg (by decide), if_pos (by decide), if_neg hb]
      exact do_div ka na kb nb sa sb _ _ _ _ _ _ _ _ _ _ _ _ _ _ w hG hka hkb hb
  · by_cases hl : sa.size + sb.size ≤ 256
    · exact do_cat ka na kb nb sa sb _ _ _ _ _ _ _ _ _ _ _ _ _ _ w hG hka hkb hl
    · exact do_cut ka na kb nb sa sb _ _ _ _ _ _ _ _ _ _ _ _ _ _ w hG hka hkb (by omega) hm
  · by_cases hl : na < nb
    · rw [if_neg (by decide), if_neg (by decide), if_neg (by decide), if_neg (by decide), if_neg (by decide), if_pos (by decide), if_pos hl]
      exact do_less_true ka na kb nb sa sb _ _ _ _ _ _ _ _ _ _ _ _ _ _ w hG hka hkb hl
    · rw [if_neg (by decide), if_neg (by decide), if_neg (by decide), if_neg (by decide), if_neg (by decide), if_pos (by decide), if_neg hl]
      exact do_less_false ka na kb nb sa sb _ _ _ _ _ _ _ _ _ _ _ _ _ _ w hG hka hkb hl
  · by_cases hl : na = nb
    · rw [if_neg (by decide), if_neg (by decide), if_neg (by decide), if_neg (by decide), if_neg (by decide), if_neg (by decide), if_pos hl]
      exact do_same_true ka na kb nb sa sb _ _ _ _ _ _ _ _ _ _ _ _ _ _ w hG hka hkb hl
    · rw [if_neg (by decide), if_neg (by decide), if_neg (by decide), if_neg (by decide), if_neg (by decide), if_neg (by decide), if_neg hl]
      exact do_same_false ka na kb nb sa sb _ _ _ _ _ _ _ _ _ _ _ _ _ _ w hG hka hkb hl
theorem rdo_c (op ka na kb nb : Int) (sa sb : ByteArray) (a2 a3 a5 a6 a7 a8 a9 b2 b3 b5 b6 b7 b8 b9 : Value) (w : World) (hm : sa.size + sb.size ≤ 9223372036854775807) :
    Calls Tryd.prog 11 #[.int .i64 op, av ka na sa a2 a3 a5 a6 a7 a8 a9, av kb nb sb b2 b3 b5 b6 b7 b8 b9] w fun e w' => e = .returned (doSpec op ka na kb nb sa sb).t ∧ Below w.heap.size w w' := by
  by_cases h0 : op < 1
  · have ht : takesTab op = 0 := by unfold takesTab; rw [if_neg (by omega), if_neg (by omega)]
    rw [show doSpec op ka na kb nb sa sb = ⟨0, 0, ⟨#[]⟩, 1⟩ by unfold doSpec; rw [if_pos ht]]
    exact rdo_low op ka na kb nb sa sb _ _ _ _ _ _ _ _ _ _ _ _ _ _ h0 w
  by_cases h8 : 7 < op
  · rw [show doSpec op ka na kb nb sa sb = ⟨0, 0, ⟨#[]⟩, 1⟩ by unfold doSpec; rw [if_pos (takes_out op (.inr (by omega)))]]
    exact rdo_high op ka na kb nb sa sb _ _ _ _ _ _ _ _ _ _ _ _ _ _ h8 w
  have ht0 : takesTab op ≠ 0 := by
    by_cases h5 : op = 5
    · subst h5; decide
    · rw [tab1 op (by omega) (by omega) h5]; decide
  obtain ⟨n, rfl⟩ := Int.eq_ofNat_of_zero_le (by omega : 0 ≤ op)
  by_cases hka : ¬ (ka = takesTab n)
  · rw [show doSpec n ka na kb nb sa sb = ⟨0, 0, ⟨#[]⟩, 13⟩ by unfold doSpec; rw [if_neg ht0, if_pos (.inl hka)]]
    by_cases h5 : (n : Int) = 5
    · obtain rfl : n = 5 := by omega
      exact rdo_ta5 ka na kb nb sa sb _ _ _ _ _ _ _ _ _ _ _ _ _ _ hka w
    · rw [tab1 n (by omega) (by omega) h5] at hka
      exact rdo_ta n ka na kb nb sa sb _ _ _ _ _ _ _ _ _ _ _ _ _ _ (by omega) (by omega) h5 hka w
  replace hka := Classical.not_not.1 hka
  by_cases hkb : ¬ (kb = takesTab n)
  · rw [show doSpec n ka na kb nb sa sb = ⟨0, 0, ⟨#[]⟩, 13⟩ by unfold doSpec; rw [if_neg ht0, if_pos (.inr hkb)]]
    by_cases h5 : (n : Int) = 5
    · obtain rfl : n = 5 := by omega
      exact rdo_tb5 ka na kb nb sa sb _ _ _ _ _ _ _ _ _ _ _ _ _ _ hka hkb w
    · rw [tab1 n (by omega) (by omega) h5] at hka hkb
      exact rdo_tb n ka na kb nb sa sb _ _ _ _ _ _ _ _ _ _ _ _ _ _ (by omega) (by omega) h5 hka hkb w
  replace hkb := Classical.not_not.1 hkb
  have hs : ¬ (ka ≠ takesTab n ∨ kb ≠ takesTab n) := by rintro (h | h); exact h hka; exact h hkb
  unfold doSpec
  rw [if_neg ht0, if_neg hs]
  have hn : n = 1 ∨ n = 2 ∨ n = 3 ∨ n = 4 ∨ n = 5 ∨ n = 6 ∨ n = 7 := by omega
  rcases hn with rfl | rfl | rfl | rfl | rfl | rfl | rfl
  · exact rdo_add ka na kb nb sa sb _ _ _ _ _ _ _ _ _ _ _ _ _ _ hka hkb w
  · exact rdo_sub ka na kb nb sa sb _ _ _ _ _ _ _ _ _ _ _ _ _ _ hka hkb w
  · exact rdo_mul ka na kb nb sa sb _ _ _ _ _ _ _ _ _ _ _ _ _ _ hka hkb w
  · by_cases hb : nb = 0
    · rw [if_neg (by decide), if_neg (by decide), if_neg (by decide), if_pos (by decide), if_pos hb]
      exact rdo_zero ka na kb nb sa sb _ _ _ _ _ _ _ _ _ _ _ _ _ _ hka hkb hb w
    · rw [if_neg (by decide), if_neg (by decide), if_neg (by decide), if_pos (by decide), if_neg hb]
      by_cases hn : nb = -1
      · exact rdo_neg ka na kb nb sa sb _ _ _ _ _ _ _ _ _ _ _ _ _ _ hka hkb hn w
      · exact rdo_div ka na kb nb sa sb _ _ _ _ _ _ _ _ _ _ _ _ _ _ hka hkb hb hn w
  · by_cases hl : sa.size + sb.size ≤ 256
    · have e : (sa ++ sb).extract 0 256 = sa ++ sb := extract_all _ _ (by rw [ByteArray.size_append]; omega)
      rw [if_neg (by decide), if_neg (by decide), if_neg (by decide), if_neg (by decide), if_pos (by decide), e]
      exact rdo_cat ka na kb nb sa sb _ _ _ _ _ _ _ _ _ _ _ _ _ _ hka hkb hl w
    · exact rdo_cut ka na kb nb sa sb _ _ _ _ _ _ _ _ _ _ _ _ _ _ hka hkb (by omega) hm w
  · by_cases hl : na < nb
    · rw [if_neg (by decide), if_neg (by decide), if_neg (by decide), if_neg (by decide), if_neg (by decide), if_pos (by decide), if_pos hl]
      exact rdo_less_true ka na kb nb sa sb _ _ _ _ _ _ _ _ _ _ _ _ _ _ hka hkb hl w
    · rw [if_neg (by decide), if_neg (by decide), if_neg (by decide), if_neg (by decide), if_neg (by decide), if_pos (by decide), if_neg hl]
      exact rdo_less_false ka na kb nb sa sb _ _ _ _ _ _ _ _ _ _ _ _ _ _ hka hkb hl w
  · by_cases hl : na = nb
    · rw [if_neg (by decide), if_neg (by decide), if_neg (by decide), if_neg (by decide), if_neg (by decide), if_neg (by decide), if_pos hl]
      exact rdo_same_true ka na kb nb sa sb _ _ _ _ _ _ _ _ _ _ _ _ _ _ hka hkb hl w
    · rw [if_neg (by decide), if_neg (by decide), if_neg (by decide), if_neg (by decide), if_neg (by decide), if_neg (by decide), if_neg hl]
      exact rdo_same_false ka na kb nb sa sb _ _ _ _ _ _ _ _ _ _ _ _ _ _ hka hkb hl w
/-- limbeckref32.Takes answers as the table. -/
theorem rtakes_c (op : Int) (w : World) : Calls Tryd.prog 14 #[.int .i64 op] w fun e w' => e = .returned (.int .i64 (takesTab op)) ∧ Below w.heap.size w w' := by
  by_cases h0 : op < 1
  · rw [show takesTab op = 0 by unfold takesTab; rw [if_neg (by omega), if_neg (by omega)]]
    exact rtakes_lo op h0 w
  by_cases h8 : 7 < op
  · rw [takes_out op (.inr (by omega))]
    exact rtakes_hi op h8 w
  by_cases h5 : op = 5
  · subst h5
    exact rtakes_5 w
  · rw [tab1 op (by omega) (by omega) h5]
    exact rtakes_in op (by omega) (by omega) h5 w
theorem rstr_c (s : ByteArray) (w : World) : Calls Tryd.prog 20 #[.string s] w fun e w' => e = .returned (vv 3 0 (s.extract 0 256)) ∧ Below w.heap.size w w' := by
  by_cases h : 256 < (s.size : Int)
  · exact rstr_l s h w
  · rw [extract_all s 256 (by omega)]
    exact rstr_s s (by omega) w
theorem rbool_c (b : Bool) (w : World) : Calls Tryd.prog 18 #[.bool b] w fun e w' => e = .returned (vv 2 (bif b then 1 else 0) ⟨#[]⟩) ∧ Below w.heap.size w w' := by
  cases b
  · exact rbool_f w
  · exact rbool_t w
end Go.Proofs.YtophddbbeechkaaDoor.W4

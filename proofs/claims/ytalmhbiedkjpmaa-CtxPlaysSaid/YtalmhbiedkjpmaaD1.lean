/-
  ctx: the walk of the law CtxNone.
-/
import Derived.Test.YtalmhbiedkjpmaaC8
import Derived.Test.YtalmhbiedkjpmaaTL
namespace Go.Proofs.Ytalmhbiedkjpmaa.PCtxPlays
open Go.RowKit Go.Proofs.YtalmhbiedkjpmaaW.Mine Go.Proofs.YtalmhbiedkjpmaaW.PrintWords Go.Proofs.YtalmhbiedkjpmaaW.PrintLast Go.Proofs.YtalmhbiedkjpmaaW.PrintMore
attribute [local go_sem] max2_int min2_int max_two min_two max_three min_three max_four min_four
set_option linter.unusedVariables false
set_option linter.unusedSimpArgs false
theorem much_c (x : Ty) {k : Nat} {r : Int} (hr : limbecklaw04_Much.f k x.f0 x.f1 x.f2 x.f3 x.f4 = some r) {A3 A4 : Option Addr} {c3 c4 : Nat} {w : World} (h : RT w x A3 c3 A4 c4) :
    Calls Try.prog 20 #[tv x A3 c3 A4 c4] w fun e w' => e = .returned (.int .i64 r) ∧ Below w.heap.size w w' :=
  (limbecklaw04_Much.calls k x.f0 x.f1 x.f2 A3 c3 x.f3 A4 c4 x.f4 r w h.2.1 h.1 h.2.2.2 h.2.2.1 hr).mono fun e w' k => k
/-- A type in a box of its own. -/
theorem box_t (w : World) (t : Ty) (A3 : Option Addr) (c3 : Nat) (A4 : Option Addr) (c4 : Nat) : let W := w.alloc (.cells #[.int .i64 t.f0, .int .i64 t.f1, .string t.f2, .slice A3 t.f3.length c3, .slice A4 t.f4.length c4] 31)
    W.heap[w.heap.size]? = some (.cells #[.int .i64 t.f0, .int .i64 t.f1, .string t.f2, .slice A3 t.f3.length c3, .slice A4 t.f4.length c4] 31 (0, 0)) ∧ Below w.heap.size w W :=
  ⟨blk_new _ _, below_alloc1 _ _⟩
def Yes (w : World) (e : Ending) (w' : World) : Prop := e = .returned (.bool true) ∧ Below w.heap.size w w'
set_option maxHeartbeats 4000000 in
set_option maxRecDepth 100000 in
theorem none_c (s : ByteArray) (t : Ty) (ot : Okt t) {A3 A4 : Option Addr} {c3 c4 : Nat} {w : World} (h : RT w t A3 c3 A4 c4) :
    Calls Try.prog 5 #[.string s, tv t A3 c3 A4 c4] w (Yes w) := by
  obtain ⟨km, m, em⟩ := told ot
  obtain ⟨ks, es⟩ := same_told ot t
  rw [same_refl] at es
  obtain ⟨kT, b0⟩ := box_t w t A3 c3 A4 c4
  have h0 := h.below b0
  clear h
  go_enter Try.func5, Try.ntmps5
  obtain ⟨⟨Tc0, Tc1, Tc2, Tc3, Tc4⟩, ⟨Tf0, Tf1, Tf2, Tf3, Tf4⟩, Tl⟩ := five kT
  go_wp2_with fail
  refine (much_c t em h0).mono ?_
  rintro e_ w_ ⟨rfl, hb⟩
  clear Tc0 Tc1 Tc2 Tc3 Tc4 Tf0 Tf1 Tf2 Tf3 Tf4 Tl
  have b_1 := chain b0 hb
  replace kT := blk_below kT hb
  replace h0 := h0.below hb
  clear b0
  clear hb
  by_cases hm : 60 < m
  · have cm : decide (60 < m) = true := decide_eq_true hm
    obtain ⟨⟨Tc0, Tc1, Tc2, Tc3, Tc4⟩, ⟨Tf0, Tf1, Tf2, Tf3, Tf4⟩, Tl⟩ := five kT
    go_wp2_with fail
    refine (awake_c _).mono ?_
    rintro e_ w_ ⟨rfl, hb⟩
    clear Tc0 Tc1 Tc2 Tc3 Tc4 Tf0 Tf1 Tf2 Tf3 Tf4 Tl
    have b_2 := chain b_1 hb
    replace kT := blk_below kT hb
    replace h0 := h0.below hb
    clear b_1
    clear hb
    obtain ⟨⟨Tc0, Tc1, Tc2, Tc3, Tc4⟩, ⟨Tf0, Tf1, Tf2, Tf3, Tf4⟩, Tl⟩ := five kT
    go_wp2
    go_ret
    exact ⟨rfl, b_2⟩
  have cm : decide (60 < m) = false := decide_eq_false hm
  clear hm
  obtain ⟨⟨Tc0, Tc1, Tc2, Tc3, Tc4⟩, ⟨Tf0, Tf1, Tf2, Tf3, Tf4⟩, Tl⟩ := five kT
  go_wp2_with fail
  refine (find_c (l := []) s (show IsCtx _ none [] from rfl) (by simp)).mono ?_
  rintro e_ w2 ⟨hb, hf⟩
  obtain rfl : e_ = .returned (.tuple #[tv z31 none 0 none 0, .bool false]) := hf
  clear Tc0 Tc1 Tc2 Tc3 Tc4 Tf0 Tf1 Tf2 Tf3 Tf4 Tl
  have b_3 := chain b_1 hb
  replace kT := blk_below kT hb
  replace h0 := h0.below hb
  clear b_1
  clear hb
  have kZ := blk_new w2 (.cells #[.int .i64 z31.f0, .int .i64 z31.f1, .string z31.f2, .slice none z31.f3.length 0, .slice none z31.f4.length 0] 31)
  have hb := below_alloc1 w2 (.cells #[.int .i64 z31.f0, .int .i64 z31.f1, .string z31.f2, .slice none z31.f3.length 0, .slice none z31.f4.length 0] 31)
  have b_4 := chain b_3 hb
  replace kT := blk_below kT hb
  replace h0 := h0.below hb
  clear b_3
  clear hb
  obtain ⟨⟨Tc0, Tc1, Tc2, Tc3, Tc4⟩, ⟨Tf0, Tf1, Tf2, Tf3, Tf4⟩, Tl⟩ := five kT
  obtain ⟨⟨Zc0, Zc1, Zc2, Zc3, Zc4⟩, ⟨Zf0, Zf1, Zf2, Zf3, Zf4⟩, Zl⟩ := five kZ
  go_wp2_with fail
  refine (with_c (l := []) s t (show IsCtx _ none [] from rfl) h0 (by simp)).mono ?_
  rintro e_ w_ ⟨q, rfl, hq, hb⟩
  clear Tc0 Tc1 Tc2 Tc3 Tc4 Tf0 Tf1 Tf2 Tf3 Tf4 Tl Zc0 Zc1 Zc2 Zc3 Zc4 Zf0 Zf1 Zf2 Zf3 Zf4 Zl
  have b_5 := chain b_4 hb
  replace kT := blk_below kT hb
  replace kZ := blk_below kZ hb
  replace h0 := h0.below hb
  clear b_4
  clear hb
  obtain ⟨⟨Tc0, Tc1, Tc2, Tc3, Tc4⟩, ⟨Tf0, Tf1, Tf2, Tf3, Tf4⟩, Tl⟩ := five kT
  obtain ⟨⟨Zc0, Zc1, Zc2, Zc3, Zc4⟩, ⟨Zf0, Zf1, Zf2, Zf3, Zf4⟩, Zl⟩ := five kZ
  go_wp2_with fail
  refine (find_c s hq (by simp)).mono ?_
  rintro e_ w3 ⟨hb, hf⟩
  rw [find_head] at hf
  obtain ⟨U3, d3, U4, d4, rfl, hu⟩ := hf
  clear Tc0 Tc1 Tc2 Tc3 Tc4 Tf0 Tf1 Tf2 Tf3 Tf4 Tl Zc0 Zc1 Zc2 Zc3 Zc4 Zf0 Zf1 Zf2 Zf3 Zf4 Zl
  have b_6 := chain b_5 hb
  replace kT := blk_below kT hb
  replace kZ := blk_below kZ hb
  replace h0 := h0.below hb
  replace hq := hq.below hb
  clear b_5
  clear hb
  have kU := blk_new w3 (.cells #[.int .i64 t.f0, .int .i64 t.f1, .string t.f2, .slice U3 t.f3.length d3, .slice U4 t.f4.length d4] 31)
  have hb := below_alloc1 w3 (.cells #[.int .i64 t.f0, .int .i64 t.f1, .string t.f2, .slice U3 t.f3.length d3, .slice U4 t.f4.length d4] 31)
  have b_7 := chain b_6 hb
  replace kT := blk_below kT hb
  replace kZ := blk_below kZ hb
  replace h0 := h0.below hb
  replace hq := hq.below hb
  replace hu := hu.below hb
  clear b_6
  clear hb
  obtain ⟨⟨Tc0, Tc1, Tc2, Tc3, Tc4⟩, ⟨Tf0, Tf1, Tf2, Tf3, Tf4⟩, Tl⟩ := five kT
  obtain ⟨⟨Zc0, Zc1, Zc2, Zc3, Zc4⟩, ⟨Zf0, Zf1, Zf2, Zf3, Zf4⟩, Zl⟩ := five kZ
  obtain ⟨⟨Uc0, Uc1, Uc2, Uc3, Uc4⟩, ⟨Uf0, Uf1, Uf2, Uf3, Uf4⟩, Ul⟩ := five kU
  go_wp2_with fail
  refine (rsame_c t t ks true es h0 hu).mono ?_
  rintro e_ w_ ⟨rfl, hb⟩
  clear Tc0 Tc1 Tc2 Tc3 Tc4 Tf0 Tf1 Tf2 Tf3 Tf4 Tl Zc0 Zc1 Zc2 Zc3 Zc4 Zf0 Zf1 Zf2 Zf3 Zf4 Zl Uc0 Uc1 Uc2 Uc3 Uc4 Uf0 Uf1 Uf2 Uf3 Uf4 Ul
  have b_8 := chain b_7 hb
  replace kT := blk_below kT hb
  replace kZ := blk_below kZ hb
  replace kU := blk_below kU hb
  replace h0 := h0.below hb
  replace hq := hq.below hb
  replace hu := hu.below hb
  clear b_7
  clear hb
  obtain ⟨⟨Tc0, Tc1, Tc2, Tc3, Tc4⟩, ⟨Tf0, Tf1, Tf2, Tf3, Tf4⟩, Tl⟩ := five kT
  obtain ⟨⟨Zc0, Zc1, Zc2, Zc3, Zc4⟩, ⟨Zf0, Zf1, Zf2, Zf3, Zf4⟩, Zl⟩ := five kZ
  obtain ⟨⟨Uc0, Uc1, Uc2, Uc3, Uc4⟩, ⟨Uf0, Uf1, Uf2, Uf3, Uf4⟩, Ul⟩ := five kU
  go_wp2_with fail
  refine (len_c (l := []) (p := none) (show IsCtx _ none [] from rfl)).mono ?_
  rintro e_ w_ ⟨rfl, rfl⟩
  go_wp2_with fail
  refine (all_c (l := []) (p := none) (show IsCtx _ none [] from rfl) (by simp)).mono ?_
  rintro e_ w_ ⟨A, c, rfl, hc, hr, hb⟩
  clear hr hc
  clear Tc0 Tc1 Tc2 Tc3 Tc4 Tf0 Tf1 Tf2 Tf3 Tf4 Tl Zc0 Zc1 Zc2 Zc3 Zc4 Zf0 Zf1 Zf2 Zf3 Zf4 Zl Uc0 Uc1 Uc2 Uc3 Uc4 Uf0 Uf1 Uf2 Uf3 Uf4 Ul
  have b_9 := chain b_8 hb
  replace kT := blk_below kT hb
  replace kZ := blk_below kZ hb
  replace kU := blk_below kU hb
  replace h0 := h0.below hb
  replace hq := hq.below hb
  replace hu := hu.below hb
  clear b_8
  clear hb
  obtain ⟨⟨Tc0, Tc1, Tc2, Tc3, Tc4⟩, ⟨Tf0, Tf1, Tf2, Tf3, Tf4⟩, Tl⟩ := five kT
  obtain ⟨⟨Zc0, Zc1, Zc2, Zc3, Zc4⟩, ⟨Zf0, Zf1, Zf2, Zf3, Zf4⟩, Zl⟩ := five kZ
  obtain ⟨⟨Uc0, Uc1, Uc2, Uc3, Uc4⟩, ⟨Uf0, Uf1, Uf2, Uf3, Uf4⟩, Ul⟩ := five kU
  go_wp2_with fail
  refine (of_c (A := none) (c := 0) [] ⟨rfl, by simp, fun h => absurd h (by simp)⟩ (by simp)).mono ?_
  rintro e_ w_ ⟨q2, rfl, hq2, hb⟩
  clear Tc0 Tc1 Tc2 Tc3 Tc4 Tf0 Tf1 Tf2 Tf3 Tf4 Tl Zc0 Zc1 Zc2 Zc3 Zc4 Zf0 Zf1 Zf2 Zf3 Zf4 Zl Uc0 Uc1 Uc2 Uc3 Uc4 Uf0 Uf1 Uf2 Uf3 Uf4 Ul
  have b_10 := chain b_9 hb
  replace kT := blk_below kT hb
  replace kZ := blk_below kZ hb
  replace kU := blk_below kU hb
  replace h0 := h0.below hb
  replace hq := hq.below hb
  replace hu := hu.below hb
  clear b_9
  clear hb
  obtain ⟨⟨Tc0, Tc1, Tc2, Tc3, Tc4⟩, ⟨Tf0, Tf1, Tf2, Tf3, Tf4⟩, Tl⟩ := five kT
  obtain ⟨⟨Zc0, Zc1, Zc2, Zc3, Zc4⟩, ⟨Zf0, Zf1, Zf2, Zf3, Zf4⟩, Zl⟩ := five kZ
  obtain ⟨⟨Uc0, Uc1, Uc2, Uc3, Uc4⟩, ⟨Uf0, Uf1, Uf2, Uf3, Uf4⟩, Ul⟩ := five kU
  go_wp2_with fail
  refine (len_c hq2).mono ?_
  rintro e_ w_ ⟨rfl, rfl⟩
  go_wp2_with fail
  refine (awake_c _).mono ?_
  rintro e_ w_ ⟨rfl, hb⟩
  clear Tc0 Tc1 Tc2 Tc3 Tc4 Tf0 Tf1 Tf2 Tf3 Tf4 Tl Zc0 Zc1 Zc2 Zc3 Zc4 Zf0 Zf1 Zf2 Zf3 Zf4 Zl Uc0 Uc1 Uc2 Uc3 Uc4 Uf0 Uf1 Uf2 Uf3 Uf4 Ul
  have b_11 := chain b_10 hb
  replace kT := blk_below kT hb
  replace kZ := blk_below kZ hb
  replace kU := blk_below kU hb
  replace h0 := h0.below hb
  replace hq := hq.below hb
  replace hu := hu.below hb
  replace hq2 := hq2.below hb
  clear b_10
  clear hb
  obtain ⟨⟨Tc0, Tc1, Tc2, Tc3, Tc4⟩, ⟨Tf0, Tf1, Tf2, Tf3, Tf4⟩, Tl⟩ := five kT
  obtain ⟨⟨Zc0, Zc1, Zc2, Zc3, Zc4⟩, ⟨Zf0, Zf1, Zf2, Zf3, Zf4⟩, Zl⟩ := five kZ
  obtain ⟨⟨Uc0, Uc1, Uc2, Uc3, Uc4⟩, ⟨Uf0, Uf1, Uf2, Uf3, Uf4⟩, Ul⟩ := five kU
  go_wp2
  go_ret
  exact ⟨rfl, b_11⟩
end Go.Proofs.Ytalmhbiedkjpmaa.PCtxPlays

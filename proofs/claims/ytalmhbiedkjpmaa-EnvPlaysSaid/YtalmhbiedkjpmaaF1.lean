/-
  env: the walk of EnvNone.
-/
import Derived.Test.YtalmhbiedkjpmaaE9
import Derived.Test.YtalmhbiedkjpmaaE5
namespace Go.Proofs.Ytalmhbiedkjpmaa.PEnvPlays
open Go.RowKit Go.Proofs.YtalmhbiedkjpmaaW.Mine Go.Proofs.YtalmhbiedkjpmaaW.PrintWords Go.Proofs.YtalmhbiedkjpmaaW.PrintLast Go.Proofs.YtalmhbiedkjpmaaW.PrintMore
attribute [local go_sem] max2_int min2_int max_two min_two max_three min_three max_four min_four
set_option linter.unusedVariables false
set_option linter.unusedSimpArgs false
theorem tmuch_c (x : Ty) {k : Nat} {r : Int} (hr : limbecklaw04_Much.f k x.f0 x.f1 x.f2 x.f3 x.f4 = some r) {A3 A4 : Option Addr} {c3 c4 : Nat} {w : World} (h : RT w x A3 c3 A4 c4) :
    Calls Try.prog 20 #[tv x A3 c3 A4 c4] w fun e w' => e = .returned (.int .i64 r) ∧ Below w.heap.size w w' :=
  (limbecklaw04_Much.calls k x.f0 x.f1 x.f2 A3 c3 x.f3 A4 c4 x.f4 r w h.2.1 h.1 h.2.2.2 h.2.2.1 hr).mono fun e w' k => k
theorem box_vt (w : World) (c d : Array Value) (t t' : TypeId) : let W := (w.alloc (.cells c t)).alloc (.cells d t')
    W.heap[w.heap.size]? = some (.cells c t (0, 0)) ∧ W.heap[w.heap.size + 1]? = some (.cells d t' (0, 0)) ∧ Below w.heap.size w W := by
  have k := blk_new (w.alloc (.cells c t)) (.cells d t')
  simp only [World.size_alloc] at k
  exact ⟨blk_alloc (blk_new w _) _, k, chain (below_alloc1 _ _) (below_alloc1 _ _)⟩
set_option maxHeartbeats 4000000 in
set_option maxRecDepth 100000 in
theorem none_c (s : ByteArray) (v : Vl) (t : Ty) (ov : Okv v) (ot : Okt t) {A6 A7 A8 A3 A4 : Option Addr} {c6 c7 c8 c3 c4 : Nat} {w : World} (h : RV w v A6 c6 A7 c7 A8 c8) (h' : RT w t A3 c3 A4 c4) :
    Calls Try.prog 7 #[.string s, vv v A6 c6 A7 c7 A8 c8, tv t A3 c3 A4 c4] w (Yes w) := by
  obtain ⟨km, m, em⟩ := toldV ov
  obtain ⟨kn, n, en⟩ := told ot
  obtain ⟨ks, es⟩ := same_told ot t
  rw [same_refl] at es
  have SV := saysV ov
  clear ov ot
  obtain ⟨kV, kT, b0⟩ := box_vt w #[.int .i64 v.f0, .int .i64 v.f1, .int .i64 v.f2, .bool v.f3, .string v.f4, .string v.f5.f0, .int .i64 v.f5.f1, .slice A6 v.f6.length c6, .slice A7 v.f7.length c7, .slice A8 v.f8.length c8] #[.int .i64 t.f0, .int .i64 t.f1, .string t.f2, .slice A3 t.f3.length c3, .slice A4 t.f4.length c4] 52 31
  have hv := h.below b0
  have ht := h'.below b0
  clear h h'
  go_enter Try.func7, Try.ntmps7
  obtain ⟨⟨Vc0, Vc1, Vc2, Vc3, Vc4, Vc5, Vc6, Vc7, Vc8, Vc9⟩, ⟨Vf0, Vf1, Vf2, Vf3, Vf4, Vf5, Vf6, Vf7, Vf8, Vf9⟩, Vl⟩ := ten kV
  obtain ⟨⟨Tc0, Tc1, Tc2, Tc3, Tc4⟩, ⟨Tf0, Tf1, Tf2, Tf3, Tf4⟩, Tl⟩ := five kT
  go_wp2_with fail
  refine (much_c em hv).mono ?_
  rintro e_ w_ ⟨rfl, hb⟩
  clear Vc0 Vc1 Vc2 Vc3 Vc4 Vc5 Vc6 Vc7 Vc8 Vc9 Vf0 Vf1 Vf2 Vf3 Vf4 Vf5 Vf6 Vf7 Vf8 Vf9 Vl Tc0 Tc1 Tc2 Tc3 Tc4 Tf0 Tf1 Tf2 Tf3 Tf4 Tl
  have b_1 := chain b0 hb
  replace kV := blk_below kV hb
  replace kT := blk_below kT hb
  replace hv := hv.below hb
  replace ht := ht.below hb
  clear b0
  clear hb
  by_cases hm : 60 < m
  · have cm : decide (60 < m) = true := decide_eq_true hm
    obtain ⟨⟨Vc0, Vc1, Vc2, Vc3, Vc4, Vc5, Vc6, Vc7, Vc8, Vc9⟩, ⟨Vf0, Vf1, Vf2, Vf3, Vf4, Vf5, Vf6, Vf7, Vf8, Vf9⟩, Vl⟩ := ten kV
    obtain ⟨⟨Tc0, Tc1, Tc2, Tc3, Tc4⟩, ⟨Tf0, Tf1, Tf2, Tf3, Tf4⟩, Tl⟩ := five kT
    go_wp2_with fail
    refine (awake_c _).mono ?_
    rintro e_ w_ ⟨rfl, hb⟩
    clear Vc0 Vc1 Vc2 Vc3 Vc4 Vc5 Vc6 Vc7 Vc8 Vc9 Vf0 Vf1 Vf2 Vf3 Vf4 Vf5 Vf6 Vf7 Vf8 Vf9 Vl Tc0 Tc1 Tc2 Tc3 Tc4 Tf0 Tf1 Tf2 Tf3 Tf4 Tl
    have b_2 := chain b_1 hb
    replace kV := blk_below kV hb
    replace kT := blk_below kT hb
    replace hv := hv.below hb
    replace ht := ht.below hb
    clear b_1
    clear hb
    obtain ⟨⟨Vc0, Vc1, Vc2, Vc3, Vc4, Vc5, Vc6, Vc7, Vc8, Vc9⟩, ⟨Vf0, Vf1, Vf2, Vf3, Vf4, Vf5, Vf6, Vf7, Vf8, Vf9⟩, Vl⟩ := ten kV
    obtain ⟨⟨Tc0, Tc1, Tc2, Tc3, Tc4⟩, ⟨Tf0, Tf1, Tf2, Tf3, Tf4⟩, Tl⟩ := five kT
    go_wp2
    go_ret
    exact ⟨rfl, b_2⟩
  have cm : decide (60 < m) = false := decide_eq_false hm
  clear hm
  obtain ⟨⟨Vc0, Vc1, Vc2, Vc3, Vc4, Vc5, Vc6, Vc7, Vc8, Vc9⟩, ⟨Vf0, Vf1, Vf2, Vf3, Vf4, Vf5, Vf6, Vf7, Vf8, Vf9⟩, Vl⟩ := ten kV
  obtain ⟨⟨Tc0, Tc1, Tc2, Tc3, Tc4⟩, ⟨Tf0, Tf1, Tf2, Tf3, Tf4⟩, Tl⟩ := five kT
  go_wp2_with fail
  refine (tmuch_c t en ht).mono ?_
  rintro e_ w_ ⟨rfl, hb⟩
  clear Vc0 Vc1 Vc2 Vc3 Vc4 Vc5 Vc6 Vc7 Vc8 Vc9 Vf0 Vf1 Vf2 Vf3 Vf4 Vf5 Vf6 Vf7 Vf8 Vf9 Vl Tc0 Tc1 Tc2 Tc3 Tc4 Tf0 Tf1 Tf2 Tf3 Tf4 Tl
  have b_3 := chain b_1 hb
  replace kV := blk_below kV hb
  replace kT := blk_below kT hb
  replace hv := hv.below hb
  replace ht := ht.below hb
  clear b_1
  clear hb
  by_cases hn : 60 < n
  · have cn : decide (60 < n) = true := decide_eq_true hn
    obtain ⟨⟨Vc0, Vc1, Vc2, Vc3, Vc4, Vc5, Vc6, Vc7, Vc8, Vc9⟩, ⟨Vf0, Vf1, Vf2, Vf3, Vf4, Vf5, Vf6, Vf7, Vf8, Vf9⟩, Vl⟩ := ten kV
    obtain ⟨⟨Tc0, Tc1, Tc2, Tc3, Tc4⟩, ⟨Tf0, Tf1, Tf2, Tf3, Tf4⟩, Tl⟩ := five kT
    go_wp2_with fail
    refine (awake_c _).mono ?_
    rintro e_ w_ ⟨rfl, hb⟩
    clear Vc0 Vc1 Vc2 Vc3 Vc4 Vc5 Vc6 Vc7 Vc8 Vc9 Vf0 Vf1 Vf2 Vf3 Vf4 Vf5 Vf6 Vf7 Vf8 Vf9 Vl Tc0 Tc1 Tc2 Tc3 Tc4 Tf0 Tf1 Tf2 Tf3 Tf4 Tl
    have b_4 := chain b_3 hb
    replace kV := blk_below kV hb
    replace kT := blk_below kT hb
    replace hv := hv.below hb
    replace ht := ht.below hb
    clear b_3
    clear hb
    obtain ⟨⟨Vc0, Vc1, Vc2, Vc3, Vc4, Vc5, Vc6, Vc7, Vc8, Vc9⟩, ⟨Vf0, Vf1, Vf2, Vf3, Vf4, Vf5, Vf6, Vf7, Vf8, Vf9⟩, Vl⟩ := ten kV
    obtain ⟨⟨Tc0, Tc1, Tc2, Tc3, Tc4⟩, ⟨Tf0, Tf1, Tf2, Tf3, Tf4⟩, Tl⟩ := five kT
    go_wp2
    go_ret
    exact ⟨rfl, b_4⟩
  have cn : decide (60 < n) = false := decide_eq_false hn
  clear hn
  obtain ⟨⟨Vc0, Vc1, Vc2, Vc3, Vc4, Vc5, Vc6, Vc7, Vc8, Vc9⟩, ⟨Vf0, Vf1, Vf2, Vf3, Vf4, Vf5, Vf6, Vf7, Vf8, Vf9⟩, Vl⟩ := ten kV
  obtain ⟨⟨Tc0, Tc1, Tc2, Tc3, Tc4⟩, ⟨Tf0, Tf1, Tf2, Tf3, Tf4⟩, Tl⟩ := five kT
  go_wp2_with fail
  refine (find_c (l := []) s (show IsEnv _ none none [] from .inl ⟨rfl, rfl⟩) (by simp)).mono ?_
  rintro e_ w2 ⟨hb, hf⟩
  obtain rfl : e_ = .returned (.tuple #[vv z52 none 0 none 0 none 0, .bool false]) := hf
  clear Vc0 Vc1 Vc2 Vc3 Vc4 Vc5 Vc6 Vc7 Vc8 Vc9 Vf0 Vf1 Vf2 Vf3 Vf4 Vf5 Vf6 Vf7 Vf8 Vf9 Vl Tc0 Tc1 Tc2 Tc3 Tc4 Tf0 Tf1 Tf2 Tf3 Tf4 Tl
  have b_5 := chain b_3 hb
  replace kV := blk_below kV hb
  replace kT := blk_below kT hb
  replace hv := hv.below hb
  replace ht := ht.below hb
  clear b_3
  clear hb
  have kZ := blk_new w2 (.cells #[.int .i64 z52.f0, .int .i64 z52.f1, .int .i64 z52.f2, .bool z52.f3, .string z52.f4, .string z52.f5.f0, .int .i64 z52.f5.f1, .slice none z52.f6.length 0, .slice none z52.f7.length 0, .slice none z52.f8.length 0] 52)
  have hb := below_alloc1 w2 (.cells #[.int .i64 z52.f0, .int .i64 z52.f1, .int .i64 z52.f2, .bool z52.f3, .string z52.f4, .string z52.f5.f0, .int .i64 z52.f5.f1, .slice none z52.f6.length 0, .slice none z52.f7.length 0, .slice none z52.f8.length 0] 52)
  have b_6 := chain b_5 hb
  replace kV := blk_below kV hb
  replace kT := blk_below kT hb
  replace hv := hv.below hb
  replace ht := ht.below hb
  clear b_5
  clear hb
  obtain ⟨⟨Vc0, Vc1, Vc2, Vc3, Vc4, Vc5, Vc6, Vc7, Vc8, Vc9⟩, ⟨Vf0, Vf1, Vf2, Vf3, Vf4, Vf5, Vf6, Vf7, Vf8, Vf9⟩, Vl⟩ := ten kV
  obtain ⟨⟨Tc0, Tc1, Tc2, Tc3, Tc4⟩, ⟨Tf0, Tf1, Tf2, Tf3, Tf4⟩, Tl⟩ := five kT
  obtain ⟨⟨Zc0, Zc1, Zc2, Zc3, Zc4, Zc5, Zc6, Zc7, Zc8, Zc9⟩, ⟨Zf0, Zf1, Zf2, Zf3, Zf4, Zf5, Zf6, Zf7, Zf8, Zf9⟩, Zl⟩ := ten kZ
  go_wp2_with fail
  refine (with_c (l := []) s v (show IsEnv _ none none [] from .inl ⟨rfl, rfl⟩) hv (by simp)).mono ?_
  rintro e_ w_ ⟨q, rfl, hq, hb⟩
  clear Vc0 Vc1 Vc2 Vc3 Vc4 Vc5 Vc6 Vc7 Vc8 Vc9 Vf0 Vf1 Vf2 Vf3 Vf4 Vf5 Vf6 Vf7 Vf8 Vf9 Vl Tc0 Tc1 Tc2 Tc3 Tc4 Tf0 Tf1 Tf2 Tf3 Tf4 Tl Zc0 Zc1 Zc2 Zc3 Zc4 Zc5 Zc6 Zc7 Zc8 Zc9 Zf0 Zf1 Zf2 Zf3 Zf4 Zf5 Zf6 Zf7 Zf8 Zf9 Zl
  have b_7 := chain b_6 hb
  replace kV := blk_below kV hb
  replace kT := blk_below kT hb
  replace kZ := blk_below kZ hb
  replace hv := hv.below hb
  replace ht := ht.below hb
  clear b_6
  clear hb
  obtain ⟨⟨Vc0, Vc1, Vc2, Vc3, Vc4, Vc5, Vc6, Vc7, Vc8, Vc9⟩, ⟨Vf0, Vf1, Vf2, Vf3, Vf4, Vf5, Vf6, Vf7, Vf8, Vf9⟩, Vl⟩ := ten kV
  obtain ⟨⟨Tc0, Tc1, Tc2, Tc3, Tc4⟩, ⟨Tf0, Tf1, Tf2, Tf3, Tf4⟩, Tl⟩ := five kT
  obtain ⟨⟨Zc0, Zc1, Zc2, Zc3, Zc4, Zc5, Zc6, Zc7, Zc8, Zc9⟩, ⟨Zf0, Zf1, Zf2, Zf3, Zf4, Zf5, Zf6, Zf7, Zf8, Zf9⟩, Zl⟩ := ten kZ
  go_wp2_with fail
  refine (find_c s hq (by simp)).mono ?_
  rintro e_ w3 ⟨hb, hf⟩
  rw [find_head] at hf
  obtain ⟨U6, u6, U7, u7, U8, u8, rfl, hu⟩ := hf
  clear Vc0 Vc1 Vc2 Vc3 Vc4 Vc5 Vc6 Vc7 Vc8 Vc9 Vf0 Vf1 Vf2 Vf3 Vf4 Vf5 Vf6 Vf7 Vf8 Vf9 Vl Tc0 Tc1 Tc2 Tc3 Tc4 Tf0 Tf1 Tf2 Tf3 Tf4 Tl Zc0 Zc1 Zc2 Zc3 Zc4 Zc5 Zc6 Zc7 Zc8 Zc9 Zf0 Zf1 Zf2 Zf3 Zf4 Zf5 Zf6 Zf7 Zf8 Zf9 Zl
  have b_8 := chain b_7 hb
  replace kV := blk_below kV hb
  replace kT := blk_below kT hb
  replace kZ := blk_below kZ hb
  replace hv := hv.below hb
  replace ht := ht.below hb
  replace hq := hq.below hb
  clear b_7
  clear hb
  have kU := blk_new w3 (.cells #[.int .i64 v.f0, .int .i64 v.f1, .int .i64 v.f2, .bool v.f3, .string v.f4, .string v.f5.f0, .int .i64 v.f5.f1, .slice U6 v.f6.length u6, .slice U7 v.f7.length u7, .slice U8 v.f8.length u8] 52)
  have hb := below_alloc1 w3 (.cells #[.int .i64 v.f0, .int .i64 v.f1, .int .i64 v.f2, .bool v.f3, .string v.f4, .string v.f5.f0, .int .i64 v.f5.f1, .slice U6 v.f6.length u6, .slice U7 v.f7.length u7, .slice U8 v.f8.length u8] 52)
  have b_9 := chain b_8 hb
  replace kV := blk_below kV hb
  replace kT := blk_below kT hb
  replace kZ := blk_below kZ hb
  replace hv := hv.below hb
  replace ht := ht.below hb
  replace hq := hq.below hb
  replace hu := hu.below hb
  clear b_8
  clear hb
  obtain ⟨⟨Vc0, Vc1, Vc2, Vc3, Vc4, Vc5, Vc6, Vc7, Vc8, Vc9⟩, ⟨Vf0, Vf1, Vf2, Vf3, Vf4, Vf5, Vf6, Vf7, Vf8, Vf9⟩, Vl⟩ := ten kV
  obtain ⟨⟨Tc0, Tc1, Tc2, Tc3, Tc4⟩, ⟨Tf0, Tf1, Tf2, Tf3, Tf4⟩, Tl⟩ := five kT
  obtain ⟨⟨Uc0, Uc1, Uc2, Uc3, Uc4, Uc5, Uc6, Uc7, Uc8, Uc9⟩, ⟨Uf0, Uf1, Uf2, Uf3, Uf4, Uf5, Uf6, Uf7, Uf8, Uf9⟩, Ul⟩ := ten kU
  go_wp2_with fail
  generalize hX : w3.alloc (.cells #[.int .i64 v.f0, .int .i64 v.f1, .int .i64 v.f2, .bool v.f3, .string v.f4, .string v.f5.f0, .int .i64 v.f5.f1, .slice U6 v.f6.length u6, .slice U7 v.f7.length u7, .slice U8 v.f8.length u8] 52) = X at Vc0 Vc1 Vc2 Vc3 Vc4 Vc5 Vc6 Vc7 Vc8 Vc9 Vf0 Vf1 Vf2 Vf3 Vf4 Vf5 Vf6 Vf7 Vf8 Vf9 Vl Tc0 Tc1 Tc2 Tc3 Tc4 Tf0 Tf1 Tf2 Tf3 Tf4 Tl Uc0 Uc1 Uc2 Uc3 Uc4 Uc5 Uc6 Uc7 Uc8 Uc9 Uf0 Uf1 Uf2 Uf3 Uf4 Uf5 Uf6 Uf7 Uf8 Uf9 Ul hv ht hq hu b_9 ⊢
  clear hX
  -- the drawn region
  refine wp_region_held_drew (S := (fun w' => Below X.heap.size X w' ∧ w'.cell? ⟨w.heap.size, 0, none⟩ = some (.int .i64 v.f0) ∧ w'.cell? ⟨w.heap.size, 1, none⟩ = some (.int .i64 v.f1) ∧ w'.cell? ⟨w.heap.size, 2, none⟩ = some (.int .i64 v.f2) ∧ w'.cell? ⟨w.heap.size, 3, none⟩ = some (.bool v.f3) ∧ w'.cell? ⟨w.heap.size, 4, none⟩ = some (.string v.f4) ∧ w'.cell? ⟨w.heap.size, 5, none⟩ = some (.string v.f5.f0) ∧ w'.cell? ⟨w.heap.size, 6, none⟩ = some (.int .i64 v.f5.f1) ∧ w'.cell? ⟨w.heap.size, 7, none⟩ = some (.slice A6 v.f6.length c6) ∧ w'.cell? ⟨w.heap.size, 8, none⟩ = some (.slice A7 v.f7.length c7) ∧ w'.cell? ⟨w.heap.size, 9, none⟩ = some (.slice A8 v.f8.length c8) ∧ w'.cell? ⟨w.heap.size + 1, 0, none⟩ = some (.int .i64 t.f0) ∧ w'.cell? ⟨w.heap.size + 1, 1, none⟩ = some (.int .i64 t.f1) ∧ w'.cell? ⟨w.heap.size + 1, 2, none⟩ = some (.string t.f2) ∧ w'.cell? ⟨w.heap.size + 1, 3, none⟩ = some (.slice A3 t.f3.length c3) ∧ w'.cell? ⟨w.heap.size + 1, 4, none⟩ = some (.slice A4 t.f4.length c4) ∧ w'.cell? ⟨w3.heap.size, 0, none⟩ = some (.int .i64 v.f0) ∧ w'.cell? ⟨w3.heap.size, 1, none⟩ = some (.int .i64 v.f1) ∧ w'.cell? ⟨w3.heap.size, 2, none⟩ = some (.int .i64 v.f2) ∧ w'.cell? ⟨w3.heap.size, 3, none⟩ = some (.bool v.f3) ∧ w'.cell? ⟨w3.heap.size, 4, none⟩ = some (.string v.f4) ∧ w'.cell? ⟨w3.heap.size, 5, none⟩ = some (.string v.f5.f0) ∧ w'.cell? ⟨w3.heap.size, 6, none⟩ = some (.int .i64 v.f5.f1) ∧ w'.cell? ⟨w3.heap.size, 7, none⟩ = some (.slice U6 v.f6.length u6) ∧ w'.cell? ⟨w3.heap.size, 8, none⟩ = some (.slice U7 v.f7.length u7) ∧ w'.cell? ⟨w3.heap.size, 9, none⟩ = some (.slice U8 v.f8.length u8))) (by kernel_rfl) ?_ (fun hHeld => ?_)
  · (try dsimp only)
    ((refine and_of (fun hB_ => ⟨cell_up hB_ Vc0, cell_up hB_ Vc1, cell_up hB_ Vc2, cell_up hB_ Vc3, cell_up hB_ Vc4, cell_up hB_ Vc5, cell_up hB_ Vc6, cell_up hB_ Vc7, cell_up hB_ Vc8, cell_up hB_ Vc9, cell_up hB_ Tc0, cell_up hB_ Tc1, cell_up hB_ Tc2, cell_up hB_ Tc3, cell_up hB_ Tc4, cell_up hB_ Uc0, cell_up hB_ Uc1, cell_up hB_ Uc2, cell_up hB_ Uc3, cell_up hB_ Uc4, cell_up hB_ Uc5, cell_up hB_ Uc6, cell_up hB_ Uc7, cell_up hB_ Uc8, cell_up hB_ Uc9⟩) ?_; first | (with_reducible exact (Below.refl _ _).drew) | (with_reducible exact below_call' (And.left (by assumption)) (by assumption)) | (with_reducible exact And.left (by assumption))))
  (first | (refine take_held (i := 0) (d := (some 36)) (v := ?_) rfl rfl (by kernel_rfl) (by kernel_rfl) (by kernel_rfl) (fun _ _ _ h => h) (Or.inl ⟨by rfl, ?_⟩) (by assumption) ?_; rotate_left 1; focus ((intro w hSw; (try dsimp only at hSw); first | (go_simp; done) | (go_simp; with_reducible rfl)); done); (try simp only [Act.put, List.setIfInBounds_toArray, List.set_cons_zero, List.set_cons_succ])))
  (try simp only [Act.put, List.setIfInBounds_toArray, List.set_cons_zero, List.set_cons_succ])
  (first | (refine take_held (i := 1) (d := (some 37)) (v := ?_) rfl rfl (by kernel_rfl) (by kernel_rfl) (by kernel_rfl) (fun _ _ _ h => h) (Or.inl ⟨by rfl, ?_⟩) (by assumption) ?_; rotate_left 1; focus ((intro w hSw; (try dsimp only at hSw); first | (go_simp; done) | (go_simp; with_reducible rfl)); done); (try simp only [Act.put, List.setIfInBounds_toArray, List.set_cons_zero, List.set_cons_succ])))
  (try simp only [Act.put, List.setIfInBounds_toArray, List.set_cons_zero, List.set_cons_succ])
  (first | (refine take_held (i := 2) (d := (some 38)) (v := ?_) rfl rfl (by kernel_rfl) (by kernel_rfl) (by kernel_rfl) (fun _ _ _ h => h) (Or.inl ⟨by rfl, ?_⟩) (by assumption) ?_; rotate_left 1; focus ((intro w hSw; (try dsimp only at hSw); first | (go_simp; done) | (go_simp; with_reducible rfl)); done); (try simp only [Act.put, List.setIfInBounds_toArray, List.set_cons_zero, List.set_cons_succ])))
  (try simp only [Act.put, List.setIfInBounds_toArray, List.set_cons_zero, List.set_cons_succ])
  (first | (refine take_held (i := 3) (d := (some 39)) (v := ?_) rfl rfl (by kernel_rfl) (by kernel_rfl) (by kernel_rfl) (fun _ _ _ h => h) (Or.inl ⟨by rfl, ?_⟩) (by assumption) ?_; rotate_left 1; focus ((intro w hSw; (try dsimp only at hSw); first | (go_simp; done) | (go_simp; with_reducible rfl)); done); (try simp only [Act.put, List.setIfInBounds_toArray, List.set_cons_zero, List.set_cons_succ])) | (refine take_held (i := 3) (d := (some 39)) (v := undef) rfl rfl (by kernel_rfl) (by kernel_rfl) (by kernel_rfl) (fun _ _ _ h => h) (Or.inr ⟨by rfl, rfl⟩) (by assumption) ?_; (try simp only [Act.put, List.setIfInBounds_toArray, List.set_cons_zero, List.set_cons_succ])))
  (try simp only [Act.put, List.setIfInBounds_toArray, List.set_cons_zero, List.set_cons_succ])
  (first | (refine take_held (i := 4) (d := (some 40)) (v := ?_) rfl rfl (by kernel_rfl) (by kernel_rfl) (by kernel_rfl) (fun _ _ _ h => h) (Or.inl ⟨by rfl, ?_⟩) (by assumption) ?_; rotate_left 1; focus ((intro w hSw; (try dsimp only at hSw); first | (go_simp; done) | (go_simp; with_reducible rfl)); done); (try simp only [Act.put, List.setIfInBounds_toArray, List.set_cons_zero, List.set_cons_succ])))
  (try simp only [Act.put, List.setIfInBounds_toArray, List.set_cons_zero, List.set_cons_succ])
  (first | (refine take_held (i := 5) (d := (some 41)) (v := ?_) rfl rfl (by kernel_rfl) (by kernel_rfl) (by kernel_rfl) (fun _ _ _ h => h) (Or.inl ⟨by rfl, ?_⟩) (by assumption) ?_; rotate_left 1; focus ((intro w hSw; (try dsimp only at hSw); first | (go_simp; done) | (go_simp; with_reducible rfl)); done); (try simp only [Act.put, List.setIfInBounds_toArray, List.set_cons_zero, List.set_cons_succ])))
  (try simp only [Act.put, List.setIfInBounds_toArray, List.set_cons_zero, List.set_cons_succ])
  (first | (refine take_held (i := 6) (d := (some 42)) (v := ?_) rfl rfl (by kernel_rfl) (by kernel_rfl) (by kernel_rfl) (fun _ _ _ h => h) (Or.inl ⟨by rfl, ?_⟩) (by assumption) ?_; rotate_left 1; focus ((intro w hSw; (try dsimp only at hSw); first | (go_simp; done) | (go_simp; with_reducible rfl)); done); (try simp only [Act.put, List.setIfInBounds_toArray, List.set_cons_zero, List.set_cons_succ])) | (refine take_held (i := 6) (d := (some 42)) (v := undef) rfl rfl (by kernel_rfl) (by kernel_rfl) (by kernel_rfl) (fun _ _ _ h => h) (Or.inr ⟨by rfl, rfl⟩) (by assumption) ?_; (try simp only [Act.put, List.setIfInBounds_toArray, List.set_cons_zero, List.set_cons_succ])))
  (try simp only [Act.put, List.setIfInBounds_toArray, List.set_cons_zero, List.set_cons_succ])
  (first | (refine take_held (i := 7) (d := (some 43)) (v := ?_) rfl rfl (by kernel_rfl) (by kernel_rfl) (by kernel_rfl) (fun _ _ _ h => h) (Or.inl ⟨by rfl, ?_⟩) (by assumption) ?_; rotate_left 1; focus ((intro w hSw; (try dsimp only at hSw); first | (go_simp; done) | (go_simp; with_reducible rfl)); done); (try simp only [Act.put, List.setIfInBounds_toArray, List.set_cons_zero, List.set_cons_succ])) | (refine take_held (i := 7) (d := (some 43)) (v := undef) rfl rfl (by kernel_rfl) (by kernel_rfl) (by kernel_rfl) (fun _ _ _ h => h) (Or.inr ⟨by rfl, rfl⟩) (by assumption) ?_; (try simp only [Act.put, List.setIfInBounds_toArray, List.set_cons_zero, List.set_cons_succ])))
  (try simp only [Act.put, List.setIfInBounds_toArray, List.set_cons_zero, List.set_cons_succ])
  (first
    | (refine take_held (i := 8) (d := (some 44)) (v := undef) rfl rfl (by kernel_rfl) (by kernel_rfl) (by kernel_rfl) (fun _ _ _ h => h) (Or.inr ⟨by rfl, rfl⟩) (by assumption) ?_; (try simp only [Act.put, List.setIfInBounds_toArray, List.set_cons_zero, List.set_cons_succ]))
    | (refine wpAnyH_ready (rs := [8]) (by kernel_rfl) (by simp) ?_; refine AllReadyH.cons (o := _) rfl (fun K hK => ?_) AllReadyH.nil; go_simp; (go_at_call 27; refine (SV _ _ _ _ _ _ _ _ _ _ _ _ _ (hv.below (And.left hHeld)) (hu.below (And.left hHeld))).mono ?_; rintro e_ wA ⟨rfl, hbA⟩); (try go_wp2_with fail); refine hK.out _ _ (by (try dsimp only); ((refine and_of (fun hB_ => ⟨cell_up hB_ Vc0, cell_up hB_ Vc1, cell_up hB_ Vc2, cell_up hB_ Vc3, cell_up hB_ Vc4, cell_up hB_ Vc5, cell_up hB_ Vc6, cell_up hB_ Vc7, cell_up hB_ Vc8, cell_up hB_ Vc9, cell_up hB_ Tc0, cell_up hB_ Tc1, cell_up hB_ Tc2, cell_up hB_ Tc3, cell_up hB_ Tc4, cell_up hB_ Uc0, cell_up hB_ Uc1, cell_up hB_ Uc2, cell_up hB_ Uc3, cell_up hB_ Uc4, cell_up hB_ Uc5, cell_up hB_ Uc6, cell_up hB_ Uc7, cell_up hB_ Uc8, cell_up hB_ Uc9⟩) ?_; first | (with_reducible exact (Below.refl _ _).drew) | (with_reducible exact below_call' (And.left hHeld) hbA) | (with_reducible exact And.left (by assumption))))) ?_; clear hHeld hK K; intro hHeld; (try simp only [Act.put, List.setIfInBounds_toArray, List.set_cons_zero, List.set_cons_succ])))
  (first | (refine take_held (i := 9) (d := (some 45)) (v := ?_) rfl rfl (by kernel_rfl) (by kernel_rfl) (by kernel_rfl) (fun _ _ _ h => h) (Or.inl ⟨by rfl, ?_⟩) (by assumption) ?_; rotate_left 1; focus ((intro w hSw; (try dsimp only at hSw); first | (go_simp; done) | (go_simp; with_reducible rfl)); done); (try simp only [Act.put, List.setIfInBounds_toArray, List.set_cons_zero, List.set_cons_succ])))
  (try simp only [Act.put, List.setIfInBounds_toArray, List.set_cons_zero, List.set_cons_succ])
  (first | (refine take_held (i := 10) (d := (some 46)) (v := ?_) rfl rfl (by kernel_rfl) (by kernel_rfl) (by kernel_rfl) (fun _ _ _ h => h) (Or.inl ⟨by rfl, ?_⟩) (by assumption) ?_; rotate_left 1; focus ((intro w hSw; (try dsimp only at hSw); first | (go_simp; done) | (go_simp; with_reducible rfl)); done); (try simp only [Act.put, List.setIfInBounds_toArray, List.set_cons_zero, List.set_cons_succ])))
  (try simp only [Act.put, List.setIfInBounds_toArray, List.set_cons_zero, List.set_cons_succ])
  (first | (refine take_held (i := 11) (d := (some 47)) (v := ?_) rfl rfl (by kernel_rfl) (by kernel_rfl) (by kernel_rfl) (fun _ _ _ h => h) (Or.inl ⟨by rfl, ?_⟩) (by assumption) ?_; rotate_left 1; focus ((intro w hSw; (try dsimp only at hSw); first | (go_simp; done) | (go_simp; with_reducible rfl)); done); (try simp only [Act.put, List.setIfInBounds_toArray, List.set_cons_zero, List.set_cons_succ])) | (refine take_held (i := 11) (d := (some 47)) (v := undef) rfl rfl (by kernel_rfl) (by kernel_rfl) (by kernel_rfl) (fun _ _ _ h => h) (Or.inr ⟨by rfl, rfl⟩) (by assumption) ?_; (try simp only [Act.put, List.setIfInBounds_toArray, List.set_cons_zero, List.set_cons_succ])))
  (try simp only [Act.put, List.setIfInBounds_toArray, List.set_cons_zero, List.set_cons_succ])
  (first
    | (refine take_held (i := 12) (d := (some 48)) (v := undef) rfl rfl (by kernel_rfl) (by kernel_rfl) (by kernel_rfl) (fun _ _ _ h => h) (Or.inr ⟨by rfl, rfl⟩) (by assumption) ?_; (try simp only [Act.put, List.setIfInBounds_toArray, List.set_cons_zero, List.set_cons_succ]))
    | (refine wpAnyH_ready (rs := [12]) (by kernel_rfl) (by simp) ?_; refine AllReadyH.cons (o := _) rfl (fun K hK => ?_) AllReadyH.nil; go_simp; (go_at_call 28; refine (len_c (l := []) (p := none) (show IsEnv _ none none [] from .inl ⟨rfl, rfl⟩)).mono ?_; rintro e_ w_ ⟨rfl, rfl⟩); (try go_wp2_with fail); refine hK.out _ _ (by (try dsimp only); ((refine and_of (fun hB_ => ⟨cell_up hB_ Vc0, cell_up hB_ Vc1, cell_up hB_ Vc2, cell_up hB_ Vc3, cell_up hB_ Vc4, cell_up hB_ Vc5, cell_up hB_ Vc6, cell_up hB_ Vc7, cell_up hB_ Vc8, cell_up hB_ Vc9, cell_up hB_ Tc0, cell_up hB_ Tc1, cell_up hB_ Tc2, cell_up hB_ Tc3, cell_up hB_ Tc4, cell_up hB_ Uc0, cell_up hB_ Uc1, cell_up hB_ Uc2, cell_up hB_ Uc3, cell_up hB_ Uc4, cell_up hB_ Uc5, cell_up hB_ Uc6, cell_up hB_ Uc7, cell_up hB_ Uc8, cell_up hB_ Uc9⟩) ?_; first | (with_reducible exact (Below.refl _ _).drew) | (with_reducible exact below_call' (And.left (by assumption)) (by assumption)) | (with_reducible exact And.left (by assumption))))) ?_; clear hHeld hK K; intro hHeld; (try simp only [Act.put, List.setIfInBounds_toArray, List.set_cons_zero, List.set_cons_succ])))
  (first | (refine take_held (i := 13) (d := (some 49)) (v := ?_) rfl rfl (by kernel_rfl) (by kernel_rfl) (by kernel_rfl) (fun _ _ _ h => h) (Or.inl ⟨by rfl, ?_⟩) (by assumption) ?_; rotate_left 1; focus ((intro w hSw; (try dsimp only at hSw); first | (go_simp; done) | (go_simp; with_reducible rfl)); done); (try simp only [Act.put, List.setIfInBounds_toArray, List.set_cons_zero, List.set_cons_succ])) | (refine take_held (i := 13) (d := (some 49)) (v := undef) rfl rfl (by kernel_rfl) (by kernel_rfl) (by kernel_rfl) (fun _ _ _ h => h) (Or.inr ⟨by rfl, rfl⟩) (by assumption) ?_; (try simp only [Act.put, List.setIfInBounds_toArray, List.set_cons_zero, List.set_cons_succ])))
  (try simp only [Act.put, List.setIfInBounds_toArray, List.set_cons_zero, List.set_cons_succ])
  (first | (refine take_held (i := 14) (d := (some 50)) (v := ?_) rfl rfl (by kernel_rfl) (by kernel_rfl) (by kernel_rfl) (fun _ _ _ h => h) (Or.inl ⟨by rfl, ?_⟩) (by assumption) ?_; rotate_left 1; focus ((intro w hSw; (try dsimp only at hSw); first | (go_simp; done) | (go_simp; with_reducible rfl)); done); (try simp only [Act.put, List.setIfInBounds_toArray, List.set_cons_zero, List.set_cons_succ])))
  (try simp only [Act.put, List.setIfInBounds_toArray, List.set_cons_zero, List.set_cons_succ])
  (first | (refine take_held (i := 15) (d := (some 51)) (v := ?_) rfl rfl (by kernel_rfl) (by kernel_rfl) (by kernel_rfl) (fun _ _ _ h => h) (Or.inl ⟨by rfl, ?_⟩) (by assumption) ?_; rotate_left 1; focus ((intro w hSw; (try dsimp only at hSw); first | (go_simp; done) | (go_simp; with_reducible rfl)); done); (try simp only [Act.put, List.setIfInBounds_toArray, List.set_cons_zero, List.set_cons_succ])))
  (try simp only [Act.put, List.setIfInBounds_toArray, List.set_cons_zero, List.set_cons_succ])
  (first | (refine take_held (i := 16) (d := (some 52)) (v := ?_) rfl rfl (by kernel_rfl) (by kernel_rfl) (by kernel_rfl) (fun _ _ _ h => h) (Or.inl ⟨by rfl, ?_⟩) (by assumption) ?_; rotate_left 1; focus ((intro w hSw; (try dsimp only at hSw); first | (go_simp; done) | (go_simp; with_reducible rfl)); done); (try simp only [Act.put, List.setIfInBounds_toArray, List.set_cons_zero, List.set_cons_succ])) | (refine take_held (i := 16) (d := (some 52)) (v := undef) rfl rfl (by kernel_rfl) (by kernel_rfl) (by kernel_rfl) (fun _ _ _ h => h) (Or.inr ⟨by rfl, rfl⟩) (by assumption) ?_; (try simp only [Act.put, List.setIfInBounds_toArray, List.set_cons_zero, List.set_cons_succ])))
  (try simp only [Act.put, List.setIfInBounds_toArray, List.set_cons_zero, List.set_cons_succ])
  (first | (refine take_held (i := 17) (d := (some 53)) (v := ?_) rfl rfl (by kernel_rfl) (by kernel_rfl) (by kernel_rfl) (fun _ _ _ h => h) (Or.inl ⟨by rfl, ?_⟩) (by assumption) ?_; rotate_left 1; focus ((intro w hSw; (try dsimp only at hSw); first | (go_simp; done) | (go_simp; with_reducible rfl)); done); (try simp only [Act.put, List.setIfInBounds_toArray, List.set_cons_zero, List.set_cons_succ])) | (refine take_held (i := 17) (d := (some 53)) (v := undef) rfl rfl (by kernel_rfl) (by kernel_rfl) (by kernel_rfl) (fun _ _ _ h => h) (Or.inr ⟨by rfl, rfl⟩) (by assumption) ?_; (try simp only [Act.put, List.setIfInBounds_toArray, List.set_cons_zero, List.set_cons_succ])))
  (try simp only [Act.put, List.setIfInBounds_toArray, List.set_cons_zero, List.set_cons_succ])
  (first | (refine take_held (i := 19) (d := (some 55)) (v := ?_) rfl rfl (by kernel_rfl) (by kernel_rfl) (by kernel_rfl) (fun _ _ _ h => h) (Or.inl ⟨by rfl, ?_⟩) (by assumption) ?_; rotate_left 1; focus ((intro w hSw; (try dsimp only at hSw); first | (go_simp; done) | (go_simp; with_reducible rfl)); done); (try simp only [Act.put, List.setIfInBounds_toArray, List.set_cons_zero, List.set_cons_succ])) | (refine take_held (i := 19) (d := (some 55)) (v := undef) rfl rfl (by kernel_rfl) (by kernel_rfl) (by kernel_rfl) (fun _ _ _ h => h) (Or.inr ⟨by rfl, rfl⟩) (by assumption) ?_; (try simp only [Act.put, List.setIfInBounds_toArray, List.set_cons_zero, List.set_cons_succ])))
  (try simp only [Act.put, List.setIfInBounds_toArray, List.set_cons_zero, List.set_cons_succ])
  (first
    | (refine take_held (i := 18) (d := (some 54)) (v := undef) rfl rfl (by kernel_rfl) (by kernel_rfl) (by kernel_rfl) (fun _ _ _ h => h) (Or.inr ⟨by rfl, rfl⟩) (by assumption) ?_; (try simp only [Act.put, List.setIfInBounds_toArray, List.set_cons_zero, List.set_cons_succ]))
    | (refine wpAnyH_ready (rs := [18]) (by kernel_rfl) (by simp) ?_; refine AllReadyH.cons (o := _) rfl (fun K hK => ?_) AllReadyH.nil; go_simp; (go_at_call 29; refine (close_none (l := []) (p := none) t (show IsEnv _ none none [] from .inl ⟨rfl, rfl⟩) (ht.below (And.left hHeld))).mono ?_; rintro e_ wC ⟨C3, e3, C4, e4, rfl, hc, hbC⟩); (try go_wp2_with fail); refine hK.out _ _ (by (try dsimp only); ((refine and_of (fun hB_ => ⟨cell_up hB_ Vc0, cell_up hB_ Vc1, cell_up hB_ Vc2, cell_up hB_ Vc3, cell_up hB_ Vc4, cell_up hB_ Vc5, cell_up hB_ Vc6, cell_up hB_ Vc7, cell_up hB_ Vc8, cell_up hB_ Vc9, cell_up hB_ Tc0, cell_up hB_ Tc1, cell_up hB_ Tc2, cell_up hB_ Tc3, cell_up hB_ Tc4, cell_up hB_ Uc0, cell_up hB_ Uc1, cell_up hB_ Uc2, cell_up hB_ Uc3, cell_up hB_ Uc4, cell_up hB_ Uc5, cell_up hB_ Uc6, cell_up hB_ Uc7, cell_up hB_ Uc8, cell_up hB_ Uc9⟩) ?_; first | (with_reducible exact (Below.refl _ _).drew) | (with_reducible exact below_call' (And.left hHeld) hbC) | (with_reducible exact And.left (by assumption))))) ?_; clear hHeld hK K; intro hHeld; (try simp only [Act.put, List.setIfInBounds_toArray, List.set_cons_zero, List.set_cons_succ])))
  (first
    | (refine take_held (i := 20) (d := (some 56)) (v := undef) rfl rfl (by kernel_rfl) (by kernel_rfl) (by kernel_rfl) (fun _ _ _ h => h) (Or.inr ⟨by rfl, rfl⟩) (by assumption) ?_; (try simp only [Act.put, List.setIfInBounds_toArray, List.set_cons_zero, List.set_cons_succ]))
    | (refine wpAnyH_ready (rs := [20]) (by kernel_rfl) (by simp) ?_; refine AllReadyH.cons (o := _) rfl (fun K hK => ?_) AllReadyH.nil; go_simp; (go_at_call 16; refine (rsame_c t t ks true es hc (ht.below (And.left hHeld))).mono ?_; rintro e_ wD ⟨rfl, hbD⟩); (try go_wp2_with fail); refine hK.out _ _ (by (try dsimp only); ((refine and_of (fun hB_ => ⟨cell_up hB_ Vc0, cell_up hB_ Vc1, cell_up hB_ Vc2, cell_up hB_ Vc3, cell_up hB_ Vc4, cell_up hB_ Vc5, cell_up hB_ Vc6, cell_up hB_ Vc7, cell_up hB_ Vc8, cell_up hB_ Vc9, cell_up hB_ Tc0, cell_up hB_ Tc1, cell_up hB_ Tc2, cell_up hB_ Tc3, cell_up hB_ Tc4, cell_up hB_ Uc0, cell_up hB_ Uc1, cell_up hB_ Uc2, cell_up hB_ Uc3, cell_up hB_ Uc4, cell_up hB_ Uc5, cell_up hB_ Uc6, cell_up hB_ Uc7, cell_up hB_ Uc8, cell_up hB_ Uc9⟩) ?_; first | (with_reducible exact (Below.refl _ _).drew) | (with_reducible exact below_call' (And.left hHeld) hbD) | (with_reducible exact And.left (by assumption))))) ?_; clear hHeld hK K; intro hHeld; (try simp only [Act.put, List.setIfInBounds_toArray, List.set_cons_zero, List.set_cons_succ])))
  (first | (refine take_held (i := 21) (d := (some 57)) (v := ?_) rfl rfl (by kernel_rfl) (by kernel_rfl) (by kernel_rfl) (fun _ _ _ h => h) (Or.inl ⟨by rfl, ?_⟩) (by assumption) ?_; rotate_left 1; focus ((intro w hSw; (try dsimp only at hSw); first | (go_simp; done) | (go_simp; with_reducible rfl)); done); (try simp only [Act.put, List.setIfInBounds_toArray, List.set_cons_zero, List.set_cons_succ])))
  (try simp only [Act.put, List.setIfInBounds_toArray, List.set_cons_zero, List.set_cons_succ])
  (first | (refine take_held (i := 22) (d := (some 58)) (v := ?_) rfl rfl (by kernel_rfl) (by kernel_rfl) (by kernel_rfl) (fun _ _ _ h => h) (Or.inl ⟨by rfl, ?_⟩) (by assumption) ?_; rotate_left 1; focus ((intro w hSw; (try dsimp only at hSw); first | (go_simp; done) | (go_simp; with_reducible rfl)); done); (try simp only [Act.put, List.setIfInBounds_toArray, List.set_cons_zero, List.set_cons_succ])))
  (try simp only [Act.put, List.setIfInBounds_toArray, List.set_cons_zero, List.set_cons_succ])
  (first | (refine take_held (i := 23) (d := (some 59)) (v := ?_) rfl rfl (by kernel_rfl) (by kernel_rfl) (by kernel_rfl) (fun _ _ _ h => h) (Or.inl ⟨by rfl, ?_⟩) (by assumption) ?_; rotate_left 1; focus ((intro w hSw; (try dsimp only at hSw); first | (go_simp; done) | (go_simp; with_reducible rfl)); done); (try simp only [Act.put, List.setIfInBounds_toArray, List.set_cons_zero, List.set_cons_succ])) | (refine take_held (i := 23) (d := (some 59)) (v := undef) rfl rfl (by kernel_rfl) (by kernel_rfl) (by kernel_rfl) (fun _ _ _ h => h) (Or.inr ⟨by rfl, rfl⟩) (by assumption) ?_; (try simp only [Act.put, List.setIfInBounds_toArray, List.set_cons_zero, List.set_cons_succ])))
  (try simp only [Act.put, List.setIfInBounds_toArray, List.set_cons_zero, List.set_cons_succ])
  (first | (refine take_held (i := 24) (d := (some 60)) (v := ?_) rfl rfl (by kernel_rfl) (by kernel_rfl) (by kernel_rfl) (fun _ _ _ h => h) (Or.inl ⟨by rfl, ?_⟩) (by assumption) ?_; rotate_left 1; focus ((intro w hSw; (try dsimp only at hSw); first | (go_simp; done) | (go_simp; with_reducible rfl)); done); (try simp only [Act.put, List.setIfInBounds_toArray, List.set_cons_zero, List.set_cons_succ])) | (refine take_held (i := 24) (d := (some 60)) (v := undef) rfl rfl (by kernel_rfl) (by kernel_rfl) (by kernel_rfl) (fun _ _ _ h => h) (Or.inr ⟨by rfl, rfl⟩) (by assumption) ?_; (try simp only [Act.put, List.setIfInBounds_toArray, List.set_cons_zero, List.set_cons_succ])))
  (try simp only [Act.put, List.setIfInBounds_toArray, List.set_cons_zero, List.set_cons_succ])
  (first | (refine take_held (i := 25) (d := (some 61)) (v := ?_) rfl rfl (by kernel_rfl) (by kernel_rfl) (by kernel_rfl) (fun _ _ _ h => h) (Or.inl ⟨by rfl, ?_⟩) (by assumption) ?_; rotate_left 1; focus ((intro w hSw; (try dsimp only at hSw); first | (go_simp; done) | (go_simp; with_reducible rfl)); done); (try simp only [Act.put, List.setIfInBounds_toArray, List.set_cons_zero, List.set_cons_succ])) | (refine take_held (i := 25) (d := (some 61)) (v := undef) rfl rfl (by kernel_rfl) (by kernel_rfl) (by kernel_rfl) (fun _ _ _ h => h) (Or.inr ⟨by rfl, rfl⟩) (by assumption) ?_; (try simp only [Act.put, List.setIfInBounds_toArray, List.set_cons_zero, List.set_cons_succ])))
  (try simp only [Act.put, List.setIfInBounds_toArray, List.set_cons_zero, List.set_cons_succ])
  (first | (refine take_held (i := 27) (d := (some 63)) (v := ?_) rfl rfl (by kernel_rfl) (by kernel_rfl) (by kernel_rfl) (fun _ _ _ h => h) (Or.inl ⟨by rfl, ?_⟩) (by assumption) ?_; rotate_left 1; focus ((intro w hSw; (try dsimp only at hSw); first | (go_simp; done) | (go_simp; with_reducible rfl)); done); (try simp only [Act.put, List.setIfInBounds_toArray, List.set_cons_zero, List.set_cons_succ])) | (refine take_held (i := 27) (d := (some 63)) (v := undef) rfl rfl (by kernel_rfl) (by kernel_rfl) (by kernel_rfl) (fun _ _ _ h => h) (Or.inr ⟨by rfl, rfl⟩) (by assumption) ?_; (try simp only [Act.put, List.setIfInBounds_toArray, List.set_cons_zero, List.set_cons_succ])))
  (try simp only [Act.put, List.setIfInBounds_toArray, List.set_cons_zero, List.set_cons_succ])
  (first | (refine take_held (i := 29) (d := (some 65)) (v := ?_) rfl rfl (by kernel_rfl) (by kernel_rfl) (by kernel_rfl) (fun _ _ _ h => h) (Or.inl ⟨by rfl, ?_⟩) (by assumption) ?_; rotate_left 1; focus ((intro w hSw; (try dsimp only at hSw); first | (go_simp; done) | (go_simp; with_reducible rfl)); done); (try simp only [Act.put, List.setIfInBounds_toArray, List.set_cons_zero, List.set_cons_succ])) | (refine take_held (i := 29) (d := (some 65)) (v := undef) rfl rfl (by kernel_rfl) (by kernel_rfl) (by kernel_rfl) (fun _ _ _ h => h) (Or.inr ⟨by rfl, rfl⟩) (by assumption) ?_; (try simp only [Act.put, List.setIfInBounds_toArray, List.set_cons_zero, List.set_cons_succ])))
  (try simp only [Act.put, List.setIfInBounds_toArray, List.set_cons_zero, List.set_cons_succ])
  (first
    | (refine take_held (i := 26) (d := (some 62)) (v := undef) rfl rfl (by kernel_rfl) (by kernel_rfl) (by kernel_rfl) (fun _ _ _ h => h) (Or.inr ⟨by rfl, rfl⟩) (by assumption) ?_; (try simp only [Act.put, List.setIfInBounds_toArray, List.set_cons_zero, List.set_cons_succ]))
    | (refine wpAnyH_ready (rs := [26]) (by kernel_rfl) (by simp) ?_; refine AllReadyH.cons (o := _) rfl (fun K hK => ?_) AllReadyH.nil; go_simp; (go_at_call 25; refine (with_c (l := []) (p := none) s v (show IsEnv _ none none [] from .inl ⟨rfl, rfl⟩) (hv.below (And.left hHeld)) (by simp)).mono ?_; rintro e_ wE ⟨q2, rfl, hq2, hbE⟩); (try go_wp2_with fail); refine hK.out _ _ (by (try dsimp only); ((refine and_of (fun hB_ => ⟨cell_up hB_ Vc0, cell_up hB_ Vc1, cell_up hB_ Vc2, cell_up hB_ Vc3, cell_up hB_ Vc4, cell_up hB_ Vc5, cell_up hB_ Vc6, cell_up hB_ Vc7, cell_up hB_ Vc8, cell_up hB_ Vc9, cell_up hB_ Tc0, cell_up hB_ Tc1, cell_up hB_ Tc2, cell_up hB_ Tc3, cell_up hB_ Tc4, cell_up hB_ Uc0, cell_up hB_ Uc1, cell_up hB_ Uc2, cell_up hB_ Uc3, cell_up hB_ Uc4, cell_up hB_ Uc5, cell_up hB_ Uc6, cell_up hB_ Uc7, cell_up hB_ Uc8, cell_up hB_ Uc9⟩) ?_; first | (with_reducible exact (Below.refl _ _).drew) | (with_reducible exact below_call' (And.left hHeld) hbE) | (with_reducible exact And.left (by assumption))))) ?_; clear hHeld hK K; intro hHeld; (try simp only [Act.put, List.setIfInBounds_toArray, List.set_cons_zero, List.set_cons_succ])))
  (first
    | (refine take_held (i := 28) (d := (some 64)) (v := undef) rfl rfl (by kernel_rfl) (by kernel_rfl) (by kernel_rfl) (fun _ _ _ h => h) (Or.inr ⟨by rfl, rfl⟩) (by assumption) ?_; (try simp only [Act.put, List.setIfInBounds_toArray, List.set_cons_zero, List.set_cons_succ]))
    | (refine wpAnyH_ready (rs := [28]) (by kernel_rfl) (by simp) ?_; refine AllReadyH.cons (o := _) rfl (fun K hK => ?_) AllReadyH.nil; go_simp; (go_at_call 29; refine (close_none t hq2 (ht.below (And.left hHeld))).mono ?_; rintro e_ wF ⟨D3, g3, D4, g4, rfl, hd, hbF⟩); (try go_wp2_with fail); refine hK.out _ _ (by (try dsimp only); ((refine and_of (fun hB_ => ⟨cell_up hB_ Vc0, cell_up hB_ Vc1, cell_up hB_ Vc2, cell_up hB_ Vc3, cell_up hB_ Vc4, cell_up hB_ Vc5, cell_up hB_ Vc6, cell_up hB_ Vc7, cell_up hB_ Vc8, cell_up hB_ Vc9, cell_up hB_ Tc0, cell_up hB_ Tc1, cell_up hB_ Tc2, cell_up hB_ Tc3, cell_up hB_ Tc4, cell_up hB_ Uc0, cell_up hB_ Uc1, cell_up hB_ Uc2, cell_up hB_ Uc3, cell_up hB_ Uc4, cell_up hB_ Uc5, cell_up hB_ Uc6, cell_up hB_ Uc7, cell_up hB_ Uc8, cell_up hB_ Uc9⟩) ?_; first | (with_reducible exact (Below.refl _ _).drew) | (with_reducible exact below_call' (And.left hHeld) hbF) | (with_reducible exact And.left (by assumption))))) ?_; clear hHeld hK K; intro hHeld; (try simp only [Act.put, List.setIfInBounds_toArray, List.set_cons_zero, List.set_cons_succ])))
  (first
    | (refine take_held (i := 30) (d := (some 66)) (v := undef) rfl rfl (by kernel_rfl) (by kernel_rfl) (by kernel_rfl) (fun _ _ _ h => h) (Or.inr ⟨by rfl, rfl⟩) (by assumption) ?_; (try simp only [Act.put, List.setIfInBounds_toArray, List.set_cons_zero, List.set_cons_succ]))
    | (refine wpAnyH_ready (rs := [30]) (by kernel_rfl) (by simp) ?_; refine AllReadyH.cons (o := _) rfl (fun K hK => ?_) AllReadyH.nil; go_simp; (go_at_call 16; refine (rsame_c t t ks true es hd (ht.below (And.left hHeld))).mono ?_; rintro e_ wG ⟨rfl, hbG⟩); (try go_wp2_with fail); refine hK.out _ _ (by (try dsimp only); ((refine and_of (fun hB_ => ⟨cell_up hB_ Vc0, cell_up hB_ Vc1, cell_up hB_ Vc2, cell_up hB_ Vc3, cell_up hB_ Vc4, cell_up hB_ Vc5, cell_up hB_ Vc6, cell_up hB_ Vc7, cell_up hB_ Vc8, cell_up hB_ Vc9, cell_up hB_ Tc0, cell_up hB_ Tc1, cell_up hB_ Tc2, cell_up hB_ Tc3, cell_up hB_ Tc4, cell_up hB_ Uc0, cell_up hB_ Uc1, cell_up hB_ Uc2, cell_up hB_ Uc3, cell_up hB_ Uc4, cell_up hB_ Uc5, cell_up hB_ Uc6, cell_up hB_ Uc7, cell_up hB_ Uc8, cell_up hB_ Uc9⟩) ?_; first | (with_reducible exact (Below.refl _ _).drew) | (with_reducible exact below_call' (And.left hHeld) hbG) | (with_reducible exact And.left (by assumption))))) ?_; clear hHeld hK K; intro hHeld; (try simp only [Act.put, List.setIfInBounds_toArray, List.set_cons_zero, List.set_cons_succ])))
  (first | (refine take_held (i := 31) (d := (some 67)) (v := ?_) rfl rfl (by kernel_rfl) (by kernel_rfl) (by kernel_rfl) (fun _ _ _ h => h) (Or.inl ⟨by rfl, ?_⟩) (by assumption) ?_; rotate_left 1; focus ((intro w hSw; (try dsimp only at hSw); first | (go_simp; done) | (go_simp; with_reducible rfl)); done); (try simp only [Act.put, List.setIfInBounds_toArray, List.set_cons_zero, List.set_cons_succ])))
  (try simp only [Act.put, List.setIfInBounds_toArray, List.set_cons_zero, List.set_cons_succ])
  (first | (refine take_held (i := 32) (d := (some 68)) (v := ?_) rfl rfl (by kernel_rfl) (by kernel_rfl) (by kernel_rfl) (fun _ _ _ h => h) (Or.inl ⟨by rfl, ?_⟩) (by assumption) ?_; rotate_left 1; focus ((intro w hSw; (try dsimp only at hSw); first | (go_simp; done) | (go_simp; with_reducible rfl)); done); (try simp only [Act.put, List.setIfInBounds_toArray, List.set_cons_zero, List.set_cons_succ])))
  (try simp only [Act.put, List.setIfInBounds_toArray, List.set_cons_zero, List.set_cons_succ])
  (first
    | (refine take_held (i := 33) (d := (some 69)) (v := undef) rfl rfl (by kernel_rfl) (by kernel_rfl) (by kernel_rfl) (fun _ _ _ h => h) (Or.inr ⟨by rfl, rfl⟩) (by assumption) ?_; (try simp only [Act.put, List.setIfInBounds_toArray, List.set_cons_zero, List.set_cons_succ]))
    | (refine wpAnyH_ready (rs := [33]) (by kernel_rfl) (by simp) ?_; refine AllReadyH.cons (o := _) rfl (fun K hK => ?_) AllReadyH.nil; go_simp; (go_at_call 23; refine (awake_c _).mono ?_; rintro e_ wH ⟨rfl, hbH⟩); (try go_wp2_with fail); refine hK.out _ _ (by (try dsimp only); ((refine and_of (fun hB_ => ⟨cell_up hB_ Vc0, cell_up hB_ Vc1, cell_up hB_ Vc2, cell_up hB_ Vc3, cell_up hB_ Vc4, cell_up hB_ Vc5, cell_up hB_ Vc6, cell_up hB_ Vc7, cell_up hB_ Vc8, cell_up hB_ Vc9, cell_up hB_ Tc0, cell_up hB_ Tc1, cell_up hB_ Tc2, cell_up hB_ Tc3, cell_up hB_ Tc4, cell_up hB_ Uc0, cell_up hB_ Uc1, cell_up hB_ Uc2, cell_up hB_ Uc3, cell_up hB_ Uc4, cell_up hB_ Uc5, cell_up hB_ Uc6, cell_up hB_ Uc7, cell_up hB_ Uc8, cell_up hB_ Uc9⟩) ?_; first | (with_reducible exact (Below.refl _ _).drew) | (with_reducible exact below_call' (And.left hHeld) hbH) | (with_reducible exact And.left (by assumption))))) ?_; clear hHeld hK K; intro hHeld; (try simp only [Act.put, List.setIfInBounds_toArray, List.set_cons_zero, List.set_cons_succ])))
  (first | (refine take_held (i := 34) (d := (some 70)) (v := ?_) rfl rfl (by kernel_rfl) (by kernel_rfl) (by kernel_rfl) (fun _ _ _ h => h) (Or.inl ⟨by rfl, ?_⟩) (by assumption) ?_; rotate_left 1; focus ((intro w hSw; (try dsimp only at hSw); first | (go_simp; done) | (go_simp; with_reducible rfl)); done); (try simp only [Act.put, List.setIfInBounds_toArray, List.set_cons_zero, List.set_cons_succ])))
  (try simp only [Act.put, List.setIfInBounds_toArray, List.set_cons_zero, List.set_cons_succ])
  (first | (refine take_held (i := 35) (d := (some 6)) (v := ?_) rfl rfl (by kernel_rfl) (by kernel_rfl) (by kernel_rfl) (fun _ _ _ h => h) (Or.inl ⟨by rfl, ?_⟩) (by assumption) ?_; rotate_left 1; focus ((intro w hSw; (try dsimp only at hSw); first | (go_simp; done) | (go_simp; with_reducible rfl)); done); (try simp only [Act.put, List.setIfInBounds_toArray, List.set_cons_zero, List.set_cons_succ])))
  (try simp only [Act.put, List.setIfInBounds_toArray, List.set_cons_zero, List.set_cons_succ])
  (try simp only [Act.put, List.setIfInBounds_toArray, List.set_cons_zero, List.set_cons_succ])
  refine wpAnyH_done (by kernel_rfl) ?_ _
  have bb := chain b_9 (And.left hHeld)
  clear Vc0 Vc1 Vc2 Vc3 Vc4 Vc5 Vc6 Vc7 Vc8 Vc9 Vf0 Vf1 Vf2 Vf3 Vf4 Vf5 Vf6 Vf7 Vf8 Vf9 Vl Tc0 Tc1 Tc2 Tc3 Tc4 Tf0 Tf1 Tf2 Tf3 Tf4 Tl Uc0 Uc1 Uc2 Uc3 Uc4 Uc5 Uc6 Uc7 Uc8 Uc9 Uf0 Uf1 Uf2 Uf3 Uf4 Uf5 Uf6 Uf7 Uf8 Uf9 Ul hHeld
  go_wp2
  go_ret
  exact ⟨rfl, bb⟩
end Go.Proofs.Ytalmhbiedkjpmaa.PEnvPlays

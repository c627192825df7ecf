/-
  prec: the walk of the law PrecCuts, for a type of as many nodes as a machine holds.
-/
import Derived.Test.YtnfnhjhnfdkinaaF7
import Derived.Test.YtnfnhjhnfdkinaaPU3
namespace Go.Proofs.Ytnfnhjhnfdkinaa.PPrecTells
open Go.RowKit Go.Proofs.YtnfnhjhnfdkinaaW.Mine Go.Proofs.YtnfnhjhnfdkinaaW.PrintWords Go.Proofs.YtnfnhjhnfdkinaaW.PrintLast Go.Proofs.YtnfnhjhnfdkinaaW.PrintMore
attribute [local go_sem] max2_int min2_int max_two min_two max_three min_three max_four min_four
set_option linter.unusedVariables false
set_option linter.unusedSimpArgs false
theorem nodes_c (x : Ty) {k : Nat} {r : Int} (hr : limbeckref04_Nodes.f k x.f0 x.f1 x.f2 x.f3 x.f4 = some r) {ok : Nat → Prop} {A3 A4 : Option Addr} {c3 c4 : Nat} {w : World} (h : FT w ok x A3 c3 A4 c4) :
    Calls Try.prog 23 #[tv x A3 c3 A4 c4] w fun e w' => e = .returned (.int .i64 r) ∧ Below w.heap.size w w' :=
  (limbeckref04_Nodes.calls k x.f0 x.f1 x.f2 A3 c3 x.f3 A4 c4 x.f4 r w h.r3 h.1 h.r4 h.2.2.1 hr).mono fun e w' k => k
mutual
theorem sm_cut : ∀ (x : Ty) (k : Int), Sm x → Sm (cut x k).1
  | ⟨a0, a1, a2, a3, a4⟩, k, h => by
    rw [cut_eq]
    split
    · exact sm_simple 5
    · split
      · exact h
      · have hl := lessAll_len (lessAll_cut a4 (k - 1))
        refine .mk _ ?_ (sm_cutAll a4 (k - 1) h.all)
        have := h.len
        simp only at this ⊢
        omega
theorem sm_cutAll : ∀ (l : List Ty) (k : Int), (∀ y, y ∈ l → Sm y) → ∀ y, y ∈ (cutAll l k).1 → Sm y
  | [], k, _, y, hy => by rw [cutAll_nil] at hy; cases hy
  | a :: l, k, h, y, hy => by
    rw [cutAll_cons] at hy
    rcases List.mem_cons.1 hy with rfl | hy
    · exact sm_cut a k (h a List.mem_cons_self)
    · exact sm_cutAll l _ (fun z hz => h z (List.mem_cons_of_mem _ hz)) y hy
end
theorem sm_some {x u : Ty} {k : Int} (h : cutO x k = some u) (hs : Sm x) : Sm u := by
  unfold cutO at h
  split at h
  · cases h
  · split at h
    · cases h
    · obtain rfl := Option.some.inj h; exact sm_cut x k hs
set_option maxHeartbeats 40000000 in
set_option maxRecDepth 100000 in
theorem cuts_c (a : Ty) (sa : Sm a) (ta : Told a) (hn : nodes a ≤ 4611686018427387904) (k n : Int) (hk0 : 0 ≤ k) (hk1 : k ≤ 255) (hn0 : 0 ≤ n) (hn1 : n ≤ 255) (A3 : Option Addr) (c3 : Nat) (A4 : Option Addr) (c4 : Nat) (w : World) (ha0 : FT w (fun k => k < w.heap.size) a A3 c3 A4 c4) :
    Calls Try.prog 6 #[tv a A3 c3 A4 c4, .int .u8 k, .int .u8 n] w fun e w' => e = .returned (.bool true) ∧ Below w.heap.size w w' := by
  obtain ⟨ka, ma, ea⟩ := ta
  obtain ⟨kn, en⟩ := (rnodes_f _ a (Nat.lt_succ_self _) hn).rounds
  generalize hN : (nodes a : Int) = N at en
  have kA := blk_new w (.cells #[.int .i64 a.f0, .int .i64 a.f1, .string a.f2, .slice A3 a.f3.length c3, .slice A4 a.f4.length c4] 25)
  have b0 := below_alloc2 w (.cells #[.int .i64 a.f0, .int .i64 a.f1, .string a.f2, .slice A3 a.f3.length c3, .slice A4 a.f4.length c4] 25)
  have ha := ha0.below b0
  clear ha0
  go_enter Try.func6, Try.ntmps6
  obtain ⟨⟨p0, p1, p2, p3, p4⟩, _, lp⟩ := five kA
  go_wp2_with fail
  go_call (much_c a ea ha) as e w1 ⟨he, hb1⟩
  subst he
  clear p0 p1 p2 p3 p4 lp
  have b1 := chain b0 hb1
  replace kA := blk_below kA hb1
  replace ha := ha.below hb1
  clear hb1
  by_cases hma : 500 < ma
  · have cma : decide (500 < ma) = true := decide_eq_true hma
    obtain ⟨⟨p0, p1, p2, p3, p4⟩, _, lp⟩ := five kA
    go_wp2_with fail
    go_call (awake_c _) as e w2 ⟨he, hb2⟩
    subst he
    go_wp2
    go_ret
    exact ⟨rfl, chain b1 hb2⟩
  have cma : decide (500 < ma) = false := decide_eq_false hma
  clear hma
  cases hfu : cutO a k with
  | none =>
    have hlt : decide (k < N) = false := decide_eq_false (by have := cutO_none (x := a) hk0 hfu; omega)
    obtain ⟨⟨p0, p1, p2, p3, p4⟩, _, lp⟩ := five kA
    go_wp2_with fail
    go_call (Cut_c a sa (fun _ => True) A3 c3 A4 c4 k (by omega) _ (ha.mono (fun _ _ => trivial))) as e w2 ⟨hb2, ho⟩
    rw [hfu] at ho
    subst ho
    clear p0 p1 p2 p3 p4 lp
    have b2 := chain b1 hb2
    replace kA := blk_below kA hb2
    replace ha := ha.below hb2
    clear hb2
    have kU := blk_new w2 (.cells #[.int .i64 z25.f0, .int .i64 z25.f1, .string z25.f2, .slice none z25.f3.length 0, .slice none z25.f4.length 0] 25)
    have bT := below_alloc2 w2 (.cells #[.int .i64 z25.f0, .int .i64 z25.f1, .string z25.f2, .slice none z25.f3.length 0, .slice none z25.f4.length 0] 25)
    have b3 := chain b2 bT
    replace kA := blk_below kA bT
    replace ha := ha.below bT
    clear bT
    obtain ⟨⟨p0, p1, p2, p3, p4⟩, _, lp⟩ := five kA
    obtain ⟨⟨u0, u1, u2, u3, u4⟩, _, lu⟩ := five kU
    go_wp2_with fail
    go_call (nodes_c a en ha) as e w4 ⟨he, hb4⟩
    subst he
    clear p0 p1 p2 p3 p4 u0 u1 u2 u3 u4 lp lu
    have b4 := chain b3 hb4
    replace kA := blk_below kA hb4
    replace kU := blk_below kU hb4
    replace ha := ha.below hb4
    clear hb4
    obtain ⟨⟨p0, p1, p2, p3, p4⟩, _, lp⟩ := five kA
    obtain ⟨⟨u0, u1, u2, u3, u4⟩, _, lu⟩ := five kU
    go_wp2_with fail
    go_call (awake_c _) as e w5 ⟨he, hb5⟩
    subst he
    go_wp2
    go_ret
    exact ⟨rfl, chain b4 hb5⟩
  | some u =>
    have hcu := cutO_some (x := a) (u := u) hfu
    have hlt : decide (k < N) = true := decide_eq_true (by have := hcu.2.1; omega)
    have hau := hcu.2.2
    have su := sm_some hfu sa
    clear hcu
    obtain ⟨⟨p0, p1, p2, p3, p4⟩, _, lp⟩ := five kA
    go_wp2_with fail
    go_call (Cut_c a sa (fun _ => True) A3 c3 A4 c4 k (by omega) _ (ha.mono (fun _ _ => trivial))) as e w2 ⟨hb2, ho⟩
    rw [hfu] at ho
    obtain ⟨U3, m3, U4, m4, he, ht0⟩ := ho
    subst he
    have hu : FT _ (fun _ => True) u U3 m3 U4 m4 := ht0.mono (fun _ _ => trivial)
    clear ht0
    clear p0 p1 p2 p3 p4 lp
    have b2 := chain b1 hb2
    replace kA := blk_below kA hb2
    replace ha := ha.below hb2
    clear hb2
    have kU := blk_new w2 (.cells #[.int .i64 u.f0, .int .i64 u.f1, .string u.f2, .slice U3 u.f3.length m3, .slice U4 u.f4.length m4] 25)
    have bT := below_alloc2 w2 (.cells #[.int .i64 u.f0, .int .i64 u.f1, .string u.f2, .slice U3 u.f3.length m3, .slice U4 u.f4.length m4] 25)
    have b3 := chain b2 bT
    replace kA := blk_below kA bT
    replace ha := ha.below bT
    replace hu := hu.below bT
    clear bT
    obtain ⟨⟨p0, p1, p2, p3, p4⟩, _, lp⟩ := five kA
    obtain ⟨⟨u0, u1, u2, u3, u4⟩, _, lu⟩ := five kU
    go_wp2_with fail
    go_call (nodes_c a en ha) as e w4 ⟨he, hb4⟩
    subst he
    clear p0 p1 p2 p3 p4 u0 u1 u2 u3 u4 lp lu
    have b4 := chain b3 hb4
    replace kA := blk_below kA hb4
    replace kU := blk_below kU hb4
    replace ha := ha.below hb4
    replace hu := hu.below hb4
    clear hb4
    cases hfv : cutO u n with
    | none =>
      obtain ⟨⟨p0, p1, p2, p3, p4⟩, _, lp⟩ := five kA
      obtain ⟨⟨u0, u1, u2, u3, u4⟩, _, lu⟩ := five kU
      go_wp2_with fail
      go_call (Cut_c u su (fun _ => True) U3 m3 U4 m4 n (by omega) _ (hu.mono (fun _ _ => trivial))) as e w5 ⟨hb5, ho⟩
      rw [hfv] at ho
      subst ho
      clear p0 p1 p2 p3 p4 u0 u1 u2 u3 u4 lp lu
      have b5 := chain b4 hb5
      replace kA := blk_below kA hb5
      replace kU := blk_below kU hb5
      replace ha := ha.below hb5
      replace hu := hu.below hb5
      clear hb5
      have kV := blk_new w5 (.cells #[.int .i64 z25.f0, .int .i64 z25.f1, .string z25.f2, .slice none z25.f3.length 0, .slice none z25.f4.length 0] 25)
      have bT := below_alloc2 w5 (.cells #[.int .i64 z25.f0, .int .i64 z25.f1, .string z25.f2, .slice none z25.f3.length 0, .slice none z25.f4.length 0] 25)
      have b6 := chain b5 bT
      replace kA := blk_below kA bT
      replace kU := blk_below kU bT
      replace ha := ha.below bT
      replace hu := hu.below bT
      clear bT
      obtain ⟨⟨p0, p1, p2, p3, p4⟩, _, lp⟩ := five kA
      obtain ⟨⟨u0, u1, u2, u3, u4⟩, _, lu⟩ := five kU
      obtain ⟨⟨v0, v1, v2, v3, v4⟩, _, lv⟩ := five kV
      go_wp2_with fail
      go_call (less_c a u ha hu) as e w7 ⟨he, hb7⟩
      rw [hau] at he
      subst he
      clear p0 p1 p2 p3 p4 u0 u1 u2 u3 u4 v0 v1 v2 v3 v4 lp lu lv
      have b7 := chain b6 hb7
      replace kA := blk_below kA hb7
      replace kU := blk_below kU hb7
      replace kV := blk_below kV hb7
      replace ha := ha.below hb7
      replace hu := hu.below hb7
      clear hb7
      obtain ⟨⟨p0, p1, p2, p3, p4⟩, _, lp⟩ := five kA
      obtain ⟨⟨u0, u1, u2, u3, u4⟩, _, lu⟩ := five kU
      obtain ⟨⟨v0, v1, v2, v3, v4⟩, _, lv⟩ := five kV
      go_wp2_with fail
      go_call (awake_c _) as e w8 ⟨he, hb8⟩
      subst he
      go_wp2
      go_ret
      exact ⟨rfl, chain b7 hb8⟩
    | some v =>
      have huv := (cutO_some (x := u) (u := v) hfv).2.2
      have hav := less_trans a u v hau huv
      obtain ⟨⟨p0, p1, p2, p3, p4⟩, _, lp⟩ := five kA
      obtain ⟨⟨u0, u1, u2, u3, u4⟩, _, lu⟩ := five kU
      go_wp2_with fail
      go_call (Cut_c u su (fun _ => True) U3 m3 U4 m4 n (by omega) _ (hu.mono (fun _ _ => trivial))) as e w5 ⟨hb5, ho⟩
      rw [hfv] at ho
      obtain ⟨V3, r3, V4, r4, he, ht0⟩ := ho
      subst he
      have hv : FT _ (fun _ => True) v V3 r3 V4 r4 := ht0.mono (fun _ _ => trivial)
      clear ht0
      clear p0 p1 p2 p3 p4 u0 u1 u2 u3 u4 lp lu
      have b5 := chain b4 hb5
      replace kA := blk_below kA hb5
      replace kU := blk_below kU hb5
      replace ha := ha.below hb5
      replace hu := hu.below hb5
      clear hb5
      have kV := blk_new w5 (.cells #[.int .i64 v.f0, .int .i64 v.f1, .string v.f2, .slice V3 v.f3.length r3, .slice V4 v.f4.length r4] 25)
      have bT := below_alloc2 w5 (.cells #[.int .i64 v.f0, .int .i64 v.f1, .string v.f2, .slice V3 v.f3.length r3, .slice V4 v.f4.length r4] 25)
      have b6 := chain b5 bT
      replace kA := blk_below kA bT
      replace kU := blk_below kU bT
      replace ha := ha.below bT
      replace hu := hu.below bT
      replace hv := hv.below bT
      clear bT
      obtain ⟨⟨p0, p1, p2, p3, p4⟩, _, lp⟩ := five kA
      obtain ⟨⟨u0, u1, u2, u3, u4⟩, _, lu⟩ := five kU
      obtain ⟨⟨v0, v1, v2, v3, v4⟩, _, lv⟩ := five kV
      go_wp2_with fail
      go_call (less_c a u ha hu) as e w7 ⟨he, hb7⟩
      rw [hau] at he
      subst he
      clear p0 p1 p2 p3 p4 u0 u1 u2 u3 u4 v0 v1 v2 v3 v4 lp lu lv
      have b7 := chain b6 hb7
      replace kA := blk_below kA hb7
      replace kU := blk_below kU hb7
      replace kV := blk_below kV hb7
      replace ha := ha.below hb7
      replace hu := hu.below hb7
      replace hv := hv.below hb7
      clear hb7
      obtain ⟨⟨p0, p1, p2, p3, p4⟩, _, lp⟩ := five kA
      obtain ⟨⟨u0, u1, u2, u3, u4⟩, _, lu⟩ := five kU
      obtain ⟨⟨v0, v1, v2, v3, v4⟩, _, lv⟩ := five kV
      go_wp2_with fail
      go_call (less_c u v hu hv) as e w8 ⟨he, hb8⟩
      rw [huv] at he
      subst he
      clear p0 p1 p2 p3 p4 u0 u1 u2 u3 u4 v0 v1 v2 v3 v4 lp lu lv
      have b8 := chain b7 hb8
      replace kA := blk_below kA hb8
      replace kU := blk_below kU hb8
      replace kV := blk_below kV hb8
      replace ha := ha.below hb8
      replace hu := hu.below hb8
      replace hv := hv.below hb8
      clear hb8
      obtain ⟨⟨p0, p1, p2, p3, p4⟩, _, lp⟩ := five kA
      obtain ⟨⟨u0, u1, u2, u3, u4⟩, _, lu⟩ := five kU
      obtain ⟨⟨v0, v1, v2, v3, v4⟩, _, lv⟩ := five kV
      go_wp2_with fail
      go_call (less_c a v ha hv) as e w9 ⟨he, hb9⟩
      rw [hav] at he
      subst he
      clear p0 p1 p2 p3 p4 u0 u1 u2 u3 u4 v0 v1 v2 v3 v4 lp lu lv
      have b9 := chain b8 hb9
      replace kA := blk_below kA hb9
      replace kU := blk_below kU hb9
      replace kV := blk_below kV hb9
      replace ha := ha.below hb9
      replace hu := hu.below hb9
      replace hv := hv.below hb9
      clear hb9
      obtain ⟨⟨p0, p1, p2, p3, p4⟩, _, lp⟩ := five kA
      obtain ⟨⟨u0, u1, u2, u3, u4⟩, _, lu⟩ := five kU
      obtain ⟨⟨v0, v1, v2, v3, v4⟩, _, lv⟩ := five kV
      go_wp2_with fail
      go_call (awake_c _) as e w10 ⟨he, hb10⟩
      subst he
      go_wp2
      go_ret
      exact ⟨rfl, chain b9 hb10⟩
end Go.Proofs.Ytnfnhjhnfdkinaa.PPrecTells

/-
  prec: the walk of the law PrecFuses.
-/
import Derived.Test.YtnfnhjhnfdkinaaF6
import Derived.Test.YtnfnhjhnfdkinaaPU1
namespace Go.Proofs.Ytnfnhjhnfdkinaa.PPrecTells
open Go.RowKit Go.Proofs.YtnfnhjhnfdkinaaW.Mine Go.Proofs.YtnfnhjhnfdkinaaW.PrintWords Go.Proofs.YtnfnhjhnfdkinaaW.PrintLast Go.Proofs.YtnfnhjhnfdkinaaW.PrintMore
attribute [local go_sem] max2_int min2_int max_two min_two max_three min_three max_four min_four
set_option linter.unusedVariables false
set_option linter.unusedSimpArgs false
/-- Much of a type is told. -/
def Told (x : Ty) : Prop := ∃ k r, limbecklaw04_Much.f k x.f0 x.f1 x.f2 x.f3 x.f4 = some r
theorem much_c (x : Ty) {k : Nat} {r : Int} (hr : limbecklaw04_Much.f k x.f0 x.f1 x.f2 x.f3 x.f4 = some r) {ok : Nat → Prop} {A3 A4 : Option Addr} {c3 c4 : Nat} {w : World} (h : FT w ok x A3 c3 A4 c4) :
    Calls Try.prog 14 #[tv x A3 c3 A4 c4] w fun e w' => e = .returned (.int .i64 r) ∧ Below w.heap.size w w' :=
  (limbecklaw04_Much.calls k x.f0 x.f1 x.f2 A3 c3 x.f3 A4 c4 x.f4 r w h.r3 h.1 h.r4 h.2.2.1 hr).mono fun e w' k => k
theorem three_at (w : World) (c d f : Array Value) (t : TypeId) : let W := ((w.alloc (.cells c t)).alloc (.cells d t)).alloc (.cells f t)
    (W.heap[w.heap.size]? = some (.cells c t (0, 0)) ∧ W.heap[w.heap.size + 1]? = some (.cells d t (0, 0)) ∧ W.heap[w.heap.size + 1 + 1]? = some (.cells f t (0, 0))) ∧ Below w.heap.size w W := by
  have k1 := blk_new (w.alloc (.cells c t)) (.cells d t)
  have k2 := blk_new ((w.alloc (.cells c t)).alloc (.cells d t)) (.cells f t)
  simp only [World.size_alloc] at k1 k2
  exact ⟨⟨blk_alloc (blk_alloc (blk_new w _) _) _, blk_alloc k1 _, k2⟩, chain (chain (below_alloc2 _ _) (below_alloc2 _ _)) (below_alloc2 _ _)⟩
theorem fuse_none {a b c : Ty} (h : fuse a b = none) (hca : less c a = true) : less c b = false := by
  cases e : less c b with
  | false => rfl
  | true =>
    obtain ⟨t, ht, _⟩ := fuse_great c a b hca e
    rw [h] at ht; cases ht
theorem fuse_some {a b c t : Ty} (h : fuse a b = some t) (hca : less c a = true) (hcb : less c b = true) : less c t = true := by
  obtain ⟨u, hu, hl⟩ := fuse_great c a b hca hcb
  rw [h] at hu; obtain rfl := Option.some.inj hu; exact hl
set_option maxHeartbeats 40000000 in
set_option maxRecDepth 100000 in
theorem fuses_c (a b c : Ty) (sa : Sm a) (ta : Told a) (tb : Told b) (tc : Told c) (A3 : Option Addr) (c3 : Nat) (A4 : Option Addr) (c4 : Nat) (B3 : Option Addr) (d3 : Nat) (B4 : Option Addr) (d4 : Nat) (C3 : Option Addr) (e3 : Nat) (C4 : Option Addr) (e4 : Nat) (w : World)
    (ha0 : FT w (fun k => k < w.heap.size) a A3 c3 A4 c4) (hb0 : FT w (fun k => k < w.heap.size) b B3 d3 B4 d4) (hc0 : FT w (fun k => k < w.heap.size) c C3 e3 C4 e4) :
    Calls Try.prog 5 #[tv a A3 c3 A4 c4, tv b B3 d3 B4 d4, tv c C3 e3 C4 e4] w fun e w' => e = .returned (.bool true) ∧ Below w.heap.size w w' := by
  obtain ⟨ka, ma, ea⟩ := ta
  obtain ⟨kb, mb, eb⟩ := tb
  obtain ⟨kc, mc, ec⟩ := tc
  obtain ⟨⟨kA, kB, kC⟩, b0⟩ := three_at w #[.int .i64 a.f0, .int .i64 a.f1, .string a.f2, .slice A3 a.f3.length c3, .slice A4 a.f4.length c4] #[.int .i64 b.f0, .int .i64 b.f1, .string b.f2, .slice B3 b.f3.length d3, .slice B4 b.f4.length d4] #[.int .i64 c.f0, .int .i64 c.f1, .string c.f2, .slice C3 c.f3.length e3, .slice C4 c.f4.length e4] 25
  have ha := ha0.below b0
  have hb := hb0.below b0
  have hc := hc0.below b0
  clear ha0 hb0 hc0
  go_enter Try.func5, Try.ntmps5
  obtain ⟨⟨p0, p1, p2, p3, p4⟩, _, lp⟩ := five kA
  obtain ⟨⟨q0, q1, q2, q3, q4⟩, _, lq⟩ := five kB
  obtain ⟨⟨r0, r1, r2, r3, r4⟩, _, lr⟩ := five kC
  go_wp2_with fail
  go_call (much_c a ea ha) as e w1 ⟨he, hb1⟩
  subst he
  clear p0 p1 p2 p3 p4 q0 q1 q2 q3 q4 r0 r1 r2 r3 r4 lp lq lr
  have b1 := chain b0 hb1
  replace kA := blk_below kA hb1
  replace kB := blk_below kB hb1
  replace kC := blk_below kC hb1
  replace ha := ha.below hb1
  replace hb := hb.below hb1
  replace hc := hc.below hb1
  clear hb1
  by_cases hma : 500 < ma
  · have cma : decide (500 < ma) = true := decide_eq_true hma
    obtain ⟨⟨p0, p1, p2, p3, p4⟩, _, lp⟩ := five kA
    obtain ⟨⟨q0, q1, q2, q3, q4⟩, _, lq⟩ := five kB
    obtain ⟨⟨r0, r1, r2, r3, r4⟩, _, lr⟩ := five kC
    go_wp2_with fail
    go_call (awake_c _) as e w2 ⟨he, hb2⟩
    subst he
    go_wp2
    go_ret
    exact ⟨rfl, chain b1 hb2⟩
  have cma : decide (500 < ma) = false := decide_eq_false hma
  clear hma
  obtain ⟨⟨p0, p1, p2, p3, p4⟩, _, lp⟩ := five kA
  obtain ⟨⟨q0, q1, q2, q3, q4⟩, _, lq⟩ := five kB
  obtain ⟨⟨r0, r1, r2, r3, r4⟩, _, lr⟩ := five kC
  go_wp2_with fail
  go_call (much_c b eb hb) as e w2 ⟨he, hb2⟩
  subst he
  clear p0 p1 p2 p3 p4 q0 q1 q2 q3 q4 r0 r1 r2 r3 r4 lp lq lr
  have b2 := chain b1 hb2
  replace kA := blk_below kA hb2
  replace kB := blk_below kB hb2
  replace kC := blk_below kC hb2
  replace ha := ha.below hb2
  replace hb := hb.below hb2
  replace hc := hc.below hb2
  clear hb2
  by_cases hmb : 500 < mb
  · have cmb : decide (500 < mb) = true := decide_eq_true hmb
    obtain ⟨⟨p0, p1, p2, p3, p4⟩, _, lp⟩ := five kA
    obtain ⟨⟨q0, q1, q2, q3, q4⟩, _, lq⟩ := five kB
    obtain ⟨⟨r0, r1, r2, r3, r4⟩, _, lr⟩ := five kC
    go_wp2_with fail
    go_call (awake_c _) as e w3 ⟨he, hb3⟩
    subst he
    go_wp2
    go_ret
    exact ⟨rfl, chain b2 hb3⟩
  have cmb : decide (500 < mb) = false := decide_eq_false hmb
  clear hmb
  obtain ⟨⟨p0, p1, p2, p3, p4⟩, _, lp⟩ := five kA
  obtain ⟨⟨q0, q1, q2, q3, q4⟩, _, lq⟩ := five kB
  obtain ⟨⟨r0, r1, r2, r3, r4⟩, _, lr⟩ := five kC
  go_wp2_with fail
  go_call (much_c c ec hc) as e w3 ⟨he, hb3⟩
  subst he
  clear p0 p1 p2 p3 p4 q0 q1 q2 q3 q4 r0 r1 r2 r3 r4 lp lq lr
  have b3 := chain b2 hb3
  replace kA := blk_below kA hb3
  replace kB := blk_below kB hb3
  replace kC := blk_below kC hb3
  replace ha := ha.below hb3
  replace hb := hb.below hb3
  replace hc := hc.below hb3
  clear hb3
  by_cases hmc : 500 < mc
  · have cmc : decide (500 < mc) = true := decide_eq_true hmc
    obtain ⟨⟨p0, p1, p2, p3, p4⟩, _, lp⟩ := five kA
    obtain ⟨⟨q0, q1, q2, q3, q4⟩, _, lq⟩ := five kB
    obtain ⟨⟨r0, r1, r2, r3, r4⟩, _, lr⟩ := five kC
    go_wp2_with fail
    go_call (awake_c _) as e w4 ⟨he, hb4⟩
    subst he
    go_wp2
    go_ret
    exact ⟨rfl, chain b3 hb4⟩
  have cmc : decide (500 < mc) = false := decide_eq_false hmc
  clear hmc
  cases hfu : fuse a b with
  | none =>
    obtain ⟨⟨p0, p1, p2, p3, p4⟩, _, lp⟩ := five kA
    obtain ⟨⟨q0, q1, q2, q3, q4⟩, _, lq⟩ := five kB
    obtain ⟨⟨r0, r1, r2, r3, r4⟩, _, lr⟩ := five kC
    go_wp2_with fail
    go_call (fuse_c _ a b (Nat.lt_succ_self _) sa (fun k => k < w.heap.size) A3 c3 A4 c4 B3 d3 B4 d4 _ ha hb) as e w4 ⟨hb4, ho⟩
    rw [hfu] at ho
    subst ho
    clear p0 p1 p2 p3 p4 q0 q1 q2 q3 q4 r0 r1 r2 r3 r4 lp lq lr
    have b4 := chain b3 hb4
    replace kA := blk_below kA hb4
    replace kB := blk_below kB hb4
    replace kC := blk_below kC hb4
    replace ha := ha.below hb4
    replace hb := hb.below hb4
    replace hc := hc.below hb4
    clear hb4
    have kT := blk_new w4 (.cells #[.int .i64 z25.f0, .int .i64 z25.f1, .string z25.f2, .slice none z25.f3.length 0, .slice none z25.f4.length 0] 25)
    have bT := below_alloc2 w4 (.cells #[.int .i64 z25.f0, .int .i64 z25.f1, .string z25.f2, .slice none z25.f3.length 0, .slice none z25.f4.length 0] 25)
    have b5 := chain b4 bT
    replace kA := blk_below kA bT
    replace kB := blk_below kB bT
    replace kC := blk_below kC bT
    replace ha := ha.below bT
    replace hb := hb.below bT
    replace hc := hc.below bT
    clear bT
    cases hca : less c a with
    | false =>
      obtain ⟨⟨p0, p1, p2, p3, p4⟩, _, lp⟩ := five kA
      obtain ⟨⟨q0, q1, q2, q3, q4⟩, _, lq⟩ := five kB
      obtain ⟨⟨r0, r1, r2, r3, r4⟩, _, lr⟩ := five kC
      obtain ⟨⟨t0, t1, t2, t3, t4⟩, _, lt⟩ := five kT
      go_wp2_with fail
      go_call (less_c c a hc ha) as e w6 ⟨he, hb6⟩
      rw [hca] at he
      subst he
      clear p0 p1 p2 p3 p4 q0 q1 q2 q3 q4 r0 r1 r2 r3 r4 t0 t1 t2 t3 t4 lp lq lr lt
      have b6 := chain b5 hb6
      replace kA := blk_below kA hb6
      replace kB := blk_below kB hb6
      replace kC := blk_below kC hb6
      replace kT := blk_below kT hb6
      replace ha := ha.below hb6
      replace hb := hb.below hb6
      replace hc := hc.below hb6
      clear hb6
      obtain ⟨⟨p0, p1, p2, p3, p4⟩, _, lp⟩ := five kA
      obtain ⟨⟨q0, q1, q2, q3, q4⟩, _, lq⟩ := five kB
      obtain ⟨⟨r0, r1, r2, r3, r4⟩, _, lr⟩ := five kC
      obtain ⟨⟨t0, t1, t2, t3, t4⟩, _, lt⟩ := five kT
      go_wp2_with fail
      go_call (awake_c _) as e w7 ⟨he, hb7⟩
      subst he
      go_wp2
      go_ret
      exact ⟨rfl, chain b6 hb7⟩
    | true =>
      have hcb := fuse_none hfu hca
      obtain ⟨⟨p0, p1, p2, p3, p4⟩, _, lp⟩ := five kA
      obtain ⟨⟨q0, q1, q2, q3, q4⟩, _, lq⟩ := five kB
      obtain ⟨⟨r0, r1, r2, r3, r4⟩, _, lr⟩ := five kC
      obtain ⟨⟨t0, t1, t2, t3, t4⟩, _, lt⟩ := five kT
      go_wp2_with fail
      go_call (less_c c a hc ha) as e w6 ⟨he, hb6⟩
      rw [hca] at he
      subst he
      clear p0 p1 p2 p3 p4 q0 q1 q2 q3 q4 r0 r1 r2 r3 r4 t0 t1 t2 t3 t4 lp lq lr lt
      have b6 := chain b5 hb6
      replace kA := blk_below kA hb6
      replace kB := blk_below kB hb6
      replace kC := blk_below kC hb6
      replace kT := blk_below kT hb6
      replace ha := ha.below hb6
      replace hb := hb.below hb6
      replace hc := hc.below hb6
      clear hb6
      obtain ⟨⟨p0, p1, p2, p3, p4⟩, _, lp⟩ := five kA
      obtain ⟨⟨q0, q1, q2, q3, q4⟩, _, lq⟩ := five kB
      obtain ⟨⟨r0, r1, r2, r3, r4⟩, _, lr⟩ := five kC
      obtain ⟨⟨t0, t1, t2, t3, t4⟩, _, lt⟩ := five kT
      go_wp2_with fail
      go_call (less_c c b hc hb) as e w7 ⟨he, hb7⟩
      rw [hcb] at he
      subst he
      clear p0 p1 p2 p3 p4 q0 q1 q2 q3 q4 r0 r1 r2 r3 r4 t0 t1 t2 t3 t4 lp lq lr lt
      have b7 := chain b6 hb7
      replace kA := blk_below kA hb7
      replace kB := blk_below kB hb7
      replace kC := blk_below kC hb7
      replace kT := blk_below kT hb7
      replace ha := ha.below hb7
      replace hb := hb.below hb7
      replace hc := hc.below hb7
      clear hb7
      obtain ⟨⟨p0, p1, p2, p3, p4⟩, _, lp⟩ := five kA
      obtain ⟨⟨q0, q1, q2, q3, q4⟩, _, lq⟩ := five kB
      obtain ⟨⟨r0, r1, r2, r3, r4⟩, _, lr⟩ := five kC
      obtain ⟨⟨t0, t1, t2, t3, t4⟩, _, lt⟩ := five kT
      go_wp2_with fail
      go_call (awake_c _) as e w8 ⟨he, hb8⟩
      subst he
      go_wp2
      go_ret
      exact ⟨rfl, chain b7 hb8⟩
  | some t =>
    obtain ⟨⟨p0, p1, p2, p3, p4⟩, _, lp⟩ := five kA
    obtain ⟨⟨q0, q1, q2, q3, q4⟩, _, lq⟩ := five kB
    obtain ⟨⟨r0, r1, r2, r3, r4⟩, _, lr⟩ := five kC
    go_wp2_with fail
    go_call (fuse_c _ a b (Nat.lt_succ_self _) sa (fun k => k < w.heap.size) A3 c3 A4 c4 B3 d3 B4 d4 _ ha hb) as e w4 ⟨hb4, ho⟩
    rw [hfu] at ho
    obtain ⟨T3, n3, T4, n4, he, ht0⟩ := ho
    subst he
    have ht : FT _ (fun _ => True) t T3 n3 T4 n4 := ht0.mono (fun _ _ => trivial)
    clear ht0
    clear p0 p1 p2 p3 p4 q0 q1 q2 q3 q4 r0 r1 r2 r3 r4 lp lq lr
    have b4 := chain b3 hb4
    replace kA := blk_below kA hb4
    replace kB := blk_below kB hb4
    replace kC := blk_below kC hb4
    replace ha := ha.below hb4
    replace hb := hb.below hb4
    replace hc := hc.below hb4
    clear hb4
    have kT := blk_new w4 (.cells #[.int .i64 t.f0, .int .i64 t.f1, .string t.f2, .slice T3 t.f3.length n3, .slice T4 t.f4.length n4] 25)
    have bT := below_alloc2 w4 (.cells #[.int .i64 t.f0, .int .i64 t.f1, .string t.f2, .slice T3 t.f3.length n3, .slice T4 t.f4.length n4] 25)
    have b5 := chain b4 bT
    replace kA := blk_below kA bT
    replace kB := blk_below kB bT
    replace kC := blk_below kC bT
    replace ha := ha.below bT
    replace hb := hb.below bT
    replace hc := hc.below bT
    replace ht := ht.below bT
    clear bT
    have hta := (fuse_less a b t hfu).1
    have htb := (fuse_less a b t hfu).2
    obtain ⟨⟨p0, p1, p2, p3, p4⟩, _, lp⟩ := five kA
    obtain ⟨⟨q0, q1, q2, q3, q4⟩, _, lq⟩ := five kB
    obtain ⟨⟨r0, r1, r2, r3, r4⟩, _, lr⟩ := five kC
    obtain ⟨⟨t0, t1, t2, t3, t4⟩, _, lt⟩ := five kT
    go_wp2_with fail
    go_call (less_c t a ht ha) as e w6 ⟨he, hb6⟩
    rw [hta] at he
    subst he
    clear p0 p1 p2 p3 p4 q0 q1 q2 q3 q4 r0 r1 r2 r3 r4 t0 t1 t2 t3 t4 lp lq lr lt
    have b6 := chain b5 hb6
    replace kA := blk_below kA hb6
    replace kB := blk_below kB hb6
    replace kC := blk_below kC hb6
    replace kT := blk_below kT hb6
    replace ha := ha.below hb6
    replace hb := hb.below hb6
    replace hc := hc.below hb6
    replace ht := ht.below hb6
    clear hb6
    obtain ⟨⟨p0, p1, p2, p3, p4⟩, _, lp⟩ := five kA
    obtain ⟨⟨q0, q1, q2, q3, q4⟩, _, lq⟩ := five kB
    obtain ⟨⟨r0, r1, r2, r3, r4⟩, _, lr⟩ := five kC
    obtain ⟨⟨t0, t1, t2, t3, t4⟩, _, lt⟩ := five kT
    go_wp2_with fail
    go_call (less_c t b ht hb) as e w7 ⟨he, hb7⟩
    rw [htb] at he
    subst he
    clear p0 p1 p2 p3 p4 q0 q1 q2 q3 q4 r0 r1 r2 r3 r4 t0 t1 t2 t3 t4 lp lq lr lt
    have b7 := chain b6 hb7
    replace kA := blk_below kA hb7
    replace kB := blk_below kB hb7
    replace kC := blk_below kC hb7
    replace kT := blk_below kT hb7
    replace ha := ha.below hb7
    replace hb := hb.below hb7
    replace hc := hc.below hb7
    replace ht := ht.below hb7
    clear hb7
    cases hca : less c a with
    | false =>
      obtain ⟨⟨p0, p1, p2, p3, p4⟩, _, lp⟩ := five kA
      obtain ⟨⟨q0, q1, q2, q3, q4⟩, _, lq⟩ := five kB
      obtain ⟨⟨r0, r1, r2, r3, r4⟩, _, lr⟩ := five kC
      obtain ⟨⟨t0, t1, t2, t3, t4⟩, _, lt⟩ := five kT
      go_wp2_with fail
      go_call (less_c c a hc ha) as e w8 ⟨he, hb8⟩
      rw [hca] at he
      subst he
      clear p0 p1 p2 p3 p4 q0 q1 q2 q3 q4 r0 r1 r2 r3 r4 t0 t1 t2 t3 t4 lp lq lr lt
      have b8 := chain b7 hb8
      replace kA := blk_below kA hb8
      replace kB := blk_below kB hb8
      replace kC := blk_below kC hb8
      replace kT := blk_below kT hb8
      replace ha := ha.below hb8
      replace hb := hb.below hb8
      replace hc := hc.below hb8
      replace ht := ht.below hb8
      clear hb8
      obtain ⟨⟨p0, p1, p2, p3, p4⟩, _, lp⟩ := five kA
      obtain ⟨⟨q0, q1, q2, q3, q4⟩, _, lq⟩ := five kB
      obtain ⟨⟨r0, r1, r2, r3, r4⟩, _, lr⟩ := five kC
      obtain ⟨⟨t0, t1, t2, t3, t4⟩, _, lt⟩ := five kT
      go_wp2_with fail
      go_call (awake_c _) as e w9 ⟨he, hb9⟩
      subst he
      go_wp2
      go_ret
      exact ⟨rfl, chain b8 hb9⟩
    | true =>
      cases hcb : less c b with
      | false =>
        obtain ⟨⟨p0, p1, p2, p3, p4⟩, _, lp⟩ := five kA
        obtain ⟨⟨q0, q1, q2, q3, q4⟩, _, lq⟩ := five kB
        obtain ⟨⟨r0, r1, r2, r3, r4⟩, _, lr⟩ := five kC
        obtain ⟨⟨t0, t1, t2, t3, t4⟩, _, lt⟩ := five kT
        go_wp2_with fail
        go_call (less_c c a hc ha) as e w8 ⟨he, hb8⟩
        rw [hca] at he
        subst he
        clear p0 p1 p2 p3 p4 q0 q1 q2 q3 q4 r0 r1 r2 r3 r4 t0 t1 t2 t3 t4 lp lq lr lt
        have b8 := chain b7 hb8
        replace kA := blk_below kA hb8
        replace kB := blk_below kB hb8
        replace kC := blk_below kC hb8
        replace kT := blk_below kT hb8
        replace ha := ha.below hb8
        replace hb := hb.below hb8
        replace hc := hc.below hb8
        replace ht := ht.below hb8
        clear hb8
        obtain ⟨⟨p0, p1, p2, p3, p4⟩, _, lp⟩ := five kA
        obtain ⟨⟨q0, q1, q2, q3, q4⟩, _, lq⟩ := five kB
        obtain ⟨⟨r0, r1, r2, r3, r4⟩, _, lr⟩ := five kC
        obtain ⟨⟨t0, t1, t2, t3, t4⟩, _, lt⟩ := five kT
        go_wp2_with fail
        go_call (less_c c b hc hb) as e w9 ⟨he, hb9⟩
        rw [hcb] at he
        subst he
        clear p0 p1 p2 p3 p4 q0 q1 q2 q3 q4 r0 r1 r2 r3 r4 t0 t1 t2 t3 t4 lp lq lr lt
        have b9 := chain b8 hb9
        replace kA := blk_below kA hb9
        replace kB := blk_below kB hb9
        replace kC := blk_below kC hb9
        replace kT := blk_below kT hb9
        replace ha := ha.below hb9
        replace hb := hb.below hb9
        replace hc := hc.below hb9
        replace ht := ht.below hb9
        clear hb9
        obtain ⟨⟨p0, p1, p2, p3, p4⟩, _, lp⟩ := five kA
        obtain ⟨⟨q0, q1, q2, q3, q4⟩, _, lq⟩ := five kB
        obtain ⟨⟨r0, r1, r2, r3, r4⟩, _, lr⟩ := five kC
        obtain ⟨⟨t0, t1, t2, t3, t4⟩, _, lt⟩ := five kT
        go_wp2_with fail
        go_call (awake_c _) as e w10 ⟨he, hb10⟩
        subst he
        go_wp2
        go_ret
        exact ⟨rfl, chain b9 hb10⟩
      | true =>
        have hct := fuse_some hfu hca hcb
        obtain ⟨⟨p0, p1, p2, p3, p4⟩, _, lp⟩ := five kA
        obtain ⟨⟨q0, q1, q2, q3, q4⟩, _, lq⟩ := five kB
        obtain ⟨⟨r0, r1, r2, r3, r4⟩, _, lr⟩ := five kC
        obtain ⟨⟨t0, t1, t2, t3, t4⟩, _, lt⟩ := five kT
        go_wp2_with fail
        go_call (less_c c a hc ha) as e w8 ⟨he, hb8⟩
        rw [hca] at he
        subst he
        clear p0 p1 p2 p3 p4 q0 q1 q2 q3 q4 r0 r1 r2 r3 r4 t0 t1 t2 t3 t4 lp lq lr lt
        have b8 := chain b7 hb8
        replace kA := blk_below kA hb8
        replace kB := blk_below kB hb8
        replace kC := blk_below kC hb8
        replace kT := blk_below kT hb8
        replace ha := ha.below hb8
        replace hb := hb.below hb8
        replace hc := hc.below hb8
        replace ht := ht.below hb8
        clear hb8
        obtain ⟨⟨p0, p1, p2, p3, p4⟩, _, lp⟩ := five kA
        obtain ⟨⟨q0, q1, q2, q3, q4⟩, _, lq⟩ := five kB
        obtain ⟨⟨r0, r1, r2, r3, r4⟩, _, lr⟩ := five kC
        obtain ⟨⟨t0, t1, t2, t3, t4⟩, _, lt⟩ := five kT
        go_wp2_with fail
        go_call (less_c c b hc hb) as e w9 ⟨he, hb9⟩
        rw [hcb] at he
        subst he
        clear p0 p1 p2 p3 p4 q0 q1 q2 q3 q4 r0 r1 r2 r3 r4 t0 t1 t2 t3 t4 lp lq lr lt
        have b9 := chain b8 hb9
        replace kA := blk_below kA hb9
        replace kB := blk_below kB hb9
        replace kC := blk_below kC hb9
        replace kT := blk_below kT hb9
        replace ha := ha.below hb9
        replace hb := hb.below hb9
        replace hc := hc.below hb9
        replace ht := ht.below hb9
        clear hb9
        obtain ⟨⟨p0, p1, p2, p3, p4⟩, _, lp⟩ := five kA
        obtain ⟨⟨q0, q1, q2, q3, q4⟩, _, lq⟩ := five kB
        obtain ⟨⟨r0, r1, r2, r3, r4⟩, _, lr⟩ := five kC
        obtain ⟨⟨t0, t1, t2, t3, t4⟩, _, lt⟩ := five kT
        go_wp2_with fail
        go_call (less_c c t hc ht) as e w10 ⟨he, hb10⟩
        rw [hct] at he
        subst he
        clear p0 p1 p2 p3 p4 q0 q1 q2 q3 q4 r0 r1 r2 r3 r4 t0 t1 t2 t3 t4 lp lq lr lt
        have b10 := chain b9 hb10
        replace kA := blk_below kA hb10
        replace kB := blk_below kB hb10
        replace kC := blk_below kC hb10
        replace kT := blk_below kT hb10
        replace ha := ha.below hb10
        replace hb := hb.below hb10
        replace hc := hc.below hb10
        replace ht := ht.below hb10
        clear hb10
        obtain ⟨⟨p0, p1, p2, p3, p4⟩, _, lp⟩ := five kA
        obtain ⟨⟨q0, q1, q2, q3, q4⟩, _, lq⟩ := five kB
        obtain ⟨⟨r0, r1, r2, r3, r4⟩, _, lr⟩ := five kC
        obtain ⟨⟨t0, t1, t2, t3, t4⟩, _, lt⟩ := five kT
        go_wp2_with fail
        go_call (awake_c _) as e w11 ⟨he, hb11⟩
        subst he
        go_wp2
        go_ret
        exact ⟨rfl, chain b10 hb11⟩
end Go.Proofs.Ytnfnhjhnfdkinaa.PPrecTells

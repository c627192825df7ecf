/-
  prec: the walk of the reference's Fuse.
-/
import Derived.Test.YtnfnhjhnfdkinaaF1
import Derived.Test.YtnfnhjhnfdkinaaPU5
namespace Go.Proofs.Ytnfnhjhnfdkinaa.PPrecTells
open Go.RowKit Go.Proofs.YtnfnhjhnfdkinaaW.Mine Go.Proofs.YtnfnhjhnfdkinaaW.PrintWords Go.Proofs.YtnfnhjhnfdkinaaW.PrintLast Go.Proofs.YtnfnhjhnfdkinaaW.PrintMore
attribute [local go_sem] max2_int min2_int max_two min_two max_three min_three max_four min_four
set_option linter.unusedVariables false
set_option linter.unusedSimpArgs false
theorem rdyn_c {x : Ty} (hb : Bd x) {w : World} {ok : Nat → Prop} {A3 A4 : Option Addr} {c3 c4 : Nat} (h : FT w ok x A3 c3 A4 c4) : Calls Try.prog 57 #[tv x A3 c3 A4 c4] w fun e w' => e = .returned (.bool (same x dynTy)) ∧ Below w.heap.size w w' := by
  obtain ⟨k, hk⟩ := (rdyn_f x hb).rounds
  exact (limbeckref08_dyn.calls k x.f0 x.f1 x.f2 A3 c3 x.f3 A4 c4 x.f4 _ w h.r3 h.1 h.r4 h.2.2.1 hk).mono fun e w' k => k
theorem ralike_c {x y : Ty} (hb : Bd x) {w : World} {ok ok' : Nat → Prop} {A3 A4 B3 B4 : Option Addr} {c3 c4 d3 d4 : Nat} (h : FT w ok x A3 c3 A4 c4) (k : FT w ok' y B3 d3 B4 d4) : Calls Try.prog 58 #[tv x A3 c3 A4 c4, tv y B3 d3 B4 d4] w fun e w' => e = .returned (.bool (likeTy x y)) ∧ Below w.heap.size w w' := by
  obtain ⟨n, hn⟩ := (ralike_f x y hb).rounds
  exact (limbeckref08_alike.calls n x.f0 x.f1 x.f2 A3 c3 x.f3 A4 c4 x.f4 y.f0 y.f1 y.f2 B3 d3 y.f3 B4 d4 y.f4 _ w h.r3 h.1 h.r4 h.2.2.1 k.r3 k.1 k.r4 k.2.2.1 hn).mono fun e w' k => k
set_option maxHeartbeats 40000000 in
set_option maxRecDepth 100000 in
theorem rfuse_c : ∀ (n : Nat) (a b : Ty), SizeOf.sizeOf a < n → Sm a → Bd a → Bd b → ∀ (ok : Nat → Prop) (A3 : Option Addr) (c3 : Nat) (A4 : Option Addr) (c4 : Nat) (B3 : Option Addr) (d3 : Nat) (B4 : Option Addr) (d4 : Nat) (w : World), FT w ok a A3 c3 A4 c4 → FT w ok b B3 d3 B4 d4 →
    Calls Try.prog 19 #[tv a A3 c3 A4 c4, tv b B3 d3 B4 d4] w (FuseOut w ok (fuse a b))
  | 0, _, _, h, _, _, _ => absurd h (Nat.not_lt_zero _)
  | n + 1, a, b, hn, hsm, hba, hbb => by
    intro ok0 A3 c3 A4 c4 B3 d3 B4 d4 w ha0 hb0
    have ha := ha0.bound
    have hb := hb0.bound
    obtain ⟨⟨kA, kB, kR⟩, b0⟩ := three w a b A3 c3 A4 c4 B3 d3 B4 d4
    have hq := fuse_eq a b
    generalize fuse a b = o at hq ⊢
    by_cases h1 : same b dynTy = true
    · rw [if_pos h1] at hq
      go_enter Try.func19, Try.ntmps19
      go_wp2_with fail
      go_call (rdyn_c hbb (hb.below b0)) as e w1 ⟨he, hb1⟩
      rw [h1] at he
      subst he
      have b1 := chain b0 hb1
      replace kA := blk_below kA hb1
      replace kB := blk_below kB hb1
      replace kR := blk_below kR hb1
      clear b0 hb1
      obtain ⟨⟨p0, p1, p2, p3, p4⟩, _, la⟩ := five kA
      obtain ⟨⟨q0, q1, q2, q3, q4⟩, _, lb⟩ := five kB
      obtain ⟨⟨r0, r1, r2, r3, r4⟩, ⟨s0, s1, s2, s3, s4⟩, lr⟩ := five kR
      go_wp2
      refine bodyPost_ret (results_ct rfl _ _ _ 25 _ (0, 0) _ rfl (stored kR _ _ _ _ _) Try.underlying25 rfl (by kernel_rfl)) rfl ?_
      exact FuseOut.yes (below_stored b1 (by omega) _ _ _ _ _) hq (((ha.below b1).stored (fun k hk => by have := hk.2; omega) _ _ _ _ _).mono (fun k hk => .inl hk.1))
    rw [if_neg h1] at hq
    replace h1 : same b dynTy = false := by simpa using h1
    by_cases h2 : same a dynTy = true
    · rw [if_pos h2] at hq
      go_enter Try.func19, Try.ntmps19
      go_wp2_with fail
      go_call (rdyn_c hbb (hb.below b0)) as e w1 ⟨he, hb1⟩
      rw [h1] at he
      subst he
      have b1 := chain b0 hb1
      replace kA := blk_below kA hb1
      replace kB := blk_below kB hb1
      replace kR := blk_below kR hb1
      clear b0 hb1
      obtain ⟨⟨p0, p1, p2, p3, p4⟩, _, la⟩ := five kA
      obtain ⟨⟨q0, q1, q2, q3, q4⟩, _, lb⟩ := five kB
      obtain ⟨⟨r0, r1, r2, r3, r4⟩, ⟨s0, s1, s2, s3, s4⟩, lr⟩ := five kR
      go_wp2_with fail
      go_call (rdyn_c hba (ha.below b1)) as e w2 ⟨he, hb2⟩
      rw [h2] at he
      subst he
      have b2 := chain b1 hb2
      replace kA := blk_below kA hb2
      replace kB := blk_below kB hb2
      replace kR := blk_below kR hb2
      clear b1 hb2
      clear p0 p1 p2 p3 p4 la q0 q1 q2 q3 q4 lb r0 r1 r2 r3 r4 s0 s1 s2 s3 s4 lr
      obtain ⟨⟨p0, p1, p2, p3, p4⟩, _, la⟩ := five kA
      obtain ⟨⟨q0, q1, q2, q3, q4⟩, _, lb⟩ := five kB
      obtain ⟨⟨r0, r1, r2, r3, r4⟩, ⟨s0, s1, s2, s3, s4⟩, lr⟩ := five kR
      go_wp2
      refine bodyPost_ret (results_ct rfl _ _ _ 25 _ (0, 0) _ rfl (stored kR _ _ _ _ _) Try.underlying25 rfl (by kernel_rfl)) rfl ?_
      exact FuseOut.yes (below_stored b2 (by omega) _ _ _ _ _) hq (((hb.below b2).stored (fun k hk => by have := hk.2; omega) _ _ _ _ _).mono (fun k hk => .inl hk.1))
    rw [if_neg h2] at hq
    replace h2 : same a dynTy = false := by simpa using h2
    by_cases h3 : likeTy a b = true
    · rw [if_pos h3] at hq
      go_enter Try.func19, Try.ntmps19
      go_wp2_with fail
      go_call (rdyn_c hbb (hb.below b0)) as e w1 ⟨he, hb1⟩
      rw [h1] at he
      subst he
      have b1 := chain b0 hb1
      replace kA := blk_below kA hb1
      replace kB := blk_below kB hb1
      replace kR := blk_below kR hb1
      clear b0 hb1
      obtain ⟨⟨p0, p1, p2, p3, p4⟩, _, la⟩ := five kA
      obtain ⟨⟨q0, q1, q2, q3, q4⟩, _, lb⟩ := five kB
      obtain ⟨⟨r0, r1, r2, r3, r4⟩, ⟨s0, s1, s2, s3, s4⟩, lr⟩ := five kR
      go_wp2_with fail
      go_call (rdyn_c hba (ha.below b1)) as e w2 ⟨he, hb2⟩
      rw [h2] at he
      subst he
      have b2 := chain b1 hb2
      replace kA := blk_below kA hb2
      replace kB := blk_below kB hb2
      replace kR := blk_below kR hb2
      clear b1 hb2
      clear p0 p1 p2 p3 p4 la q0 q1 q2 q3 q4 lb r0 r1 r2 r3 r4 s0 s1 s2 s3 s4 lr
      obtain ⟨⟨p0, p1, p2, p3, p4⟩, _, la⟩ := five kA
      obtain ⟨⟨q0, q1, q2, q3, q4⟩, _, lb⟩ := five kB
      obtain ⟨⟨r0, r1, r2, r3, r4⟩, ⟨s0, s1, s2, s3, s4⟩, lr⟩ := five kR
      go_wp2_with fail
      go_call (ralike_c hba (ha.below b2) (hb.below b2)) as e w3 ⟨he, hb3⟩
      rw [h3] at he
      subst he
      have b3 := chain b2 hb3
      replace kA := blk_below kA hb3
      replace kB := blk_below kB hb3
      replace kR := blk_below kR hb3
      clear b2 hb3
      clear p0 p1 p2 p3 p4 la q0 q1 q2 q3 q4 lb r0 r1 r2 r3 r4 s0 s1 s2 s3 s4 lr
      obtain ⟨⟨p0, p1, p2, p3, p4⟩, _, la⟩ := five kA
      obtain ⟨⟨q0, q1, q2, q3, q4⟩, _, lb⟩ := five kB
      obtain ⟨⟨r0, r1, r2, r3, r4⟩, ⟨s0, s1, s2, s3, s4⟩, lr⟩ := five kR
      have kU := blk_new w3 (.cells #[.int .i64 a.f0, .int .i64 a.f1, .string a.f2, .slice A3 a.f3.length c3, .slice none 0 0] 25)
      replace kA := blk_alloc kA (.cells #[.int .i64 a.f0, .int .i64 a.f1, .string a.f2, .slice A3 a.f3.length c3, .slice none 0 0] 25)
      replace kB := blk_alloc kB (.cells #[.int .i64 a.f0, .int .i64 a.f1, .string a.f2, .slice A3 a.f3.length c3, .slice none 0 0] 25)
      replace kR := blk_alloc kR (.cells #[.int .i64 a.f0, .int .i64 a.f1, .string a.f2, .slice A3 a.f3.length c3, .slice none 0 0] 25)
      have b4 := chain b3 (below_alloc1 w3 (.cells #[.int .i64 a.f0, .int .i64 a.f1, .string a.f2, .slice A3 a.f3.length c3, .slice none 0 0] 25))
      go_wp2_with fail
      clear p0 p1 p2 p3 p4 la q0 q1 q2 q3 q4 lb r0 r1 r2 r3 r4 s0 s1 s2 s3 s4 b3
      generalize hX0 : w3.alloc _ = X0 at kA kB kR kU b4 ⊢
      generalize hgU : w3.heap.size = gU at kU lr ⊢
      clear hX0
      have HLL := Aside0.mk (like_len h3)
      have hsl := hsm.len
      go_loopg [7] a.f4.length (fun kq v7 w' => ∃ (i : Nat) (v : Value) (xs : List Ty), v7 = .int .i64 i ∧ kq + i = a.f4.length ∧ xs.length = i ∧ fuseAll a.f4 b.f4 = (fuseAll (a.f4.drop i) (b.f4.drop i)).map (fun l => xs ++ l) ∧ Kd.N kTy 25 w' w.heap.size (fun k => (ok0 k ∧ k < w.heap.size) ∨ gU < k) v xs ∧ w'.heap[gU]? = some (.cells #[.int .i64 a.f0, .int .i64 a.f1, .string a.f2, .slice A3 a.f3.length c3, v] 25 (0, 0)) ∧ w'.heap[w.heap.size]? = some (.cells #[.int .i64 a.f0, .int .i64 a.f1, .string a.f2, .slice A3 a.f3.length c3, .slice A4 a.f4.length c4] 25 (0, 0)) ∧ w'.heap[w.heap.size + 1]? = some (.cells #[.int .i64 b.f0, .int .i64 b.f1, .string b.f2, .slice B3 b.f3.length d3, .slice B4 b.f4.length d4] 25 (0, 0)) ∧ w'.heap[w.heap.size + 1 + 1]? = some (.cells #[.int .i64 0, .int .i64 0, .string ⟨#[]⟩, .slice none 0 0, .slice none 0 0] 25 (0, 0)) ∧ Below w.heap.size w w')
      case atStart => exact ⟨0, .slice none 0 0, [], rfl, rfl, rfl, by simp, Kd.N_nil _ _ _ _ _, kU, kA, kB, kR, b4⟩
      case round =>
        clear kU kA kB kR b4
        obtain ⟨i, v, xs, rfl, hk, hxl, hfa, HO, kU, kA, kB, kR, br⟩ := hrel
        obtain ⟨Av, cv, rfl⟩ := Kd.N_slice HO
        have HXL := Aside0.mk hxl
        clear hxl
        obtain ⟨⟨p0, p1, p2, p3, p4⟩, _, la⟩ := five kA
        obtain ⟨⟨q0, q1, q2, q3, q4⟩, _, lb⟩ := five kB
        obtain ⟨⟨r0, r1, r2, r3, r4⟩, ⟨s0, s1, s2, s3, s4⟩, lr'⟩ := five kR
        obtain ⟨⟨u0, u1, u2, u3, u4⟩, ⟨t0, t1, t2, t3, t4⟩, lu⟩ := five kU
        by_cases hi : i < a.f4.length
        · obtain ⟨k1, rfl⟩ : ∃ k1, gk = k1 + 1 := ⟨gk - 1, by omega⟩
          have hib : i < b.f4.length := by have := HLL.out; omega
          have ci : decide ((i : Int) < (a.f4.length : Int)) = true := decide_eq_true (by omega)
          obtain ⟨ad, X3, e3, X4, e4, hA, fx, x0, x1, x2, x3, x4⟩ := elt ha.2.2.2 i hi
          obtain ⟨bd, Y3, h3', Y4, h4', hB, fy, y0, y1, y2, y3, y4⟩ := elt hb.2.2.2 i hib
          subst hA
          subst hB
          replace x0 := cell_up br x0
          replace x1 := cell_up br x1
          replace x2 := cell_up br x2
          replace x3 := cell_up br x3
          replace x4 := cell_up br x4
          replace y0 := cell_up br y0
          replace y1 := cell_up br y1
          replace y2 := cell_up br y2
          replace y3 := cell_up br y3
          replace y4 := cell_up br y4
          have HQ := Aside0.mk hq
          have HF := Aside0.mk hfa
          clear hq hfa
          have cj : decide ((i : Int) < (b.f4.length : Int)) = true := decide_eq_true (by omega)
          go_wp2_with fail
          have brX := br
          clear r0 r1 r2 r3 r4 s0 s1 s2 s3 s4 lr' u0 u1 u2 u3 u4 t0 t1 t2 t3 t4 p0 p1 p2 p3 la q0 q1 q2 q3 lb ci cj br
          have hsz : SizeOf.sizeOf a.f4[i] < n := by have := size_args a a.f4[i] (List.getElem_mem hi); omega
          have hsmi := hsm.all _ (List.getElem_mem hi)
          cases hfi : fuse a.f4[i] b.f4[i] with
          | none =>
            refine with_cont (G := ?Gnone) ?cont fun hmain => ?reg
            case reg =>
              go_region_held3 (fun w' => Below wr.heap.size wr w' ∧ w'.cell? ⟨w.heap.size, 4, none⟩ = some (.slice (some ad) a.f4.length c4) ∧ w'.cell? ⟨w.heap.size + 1, 4, none⟩ = some (.slice (some bd) b.f4.length d4) ∧ w'.cell? (ad.add (i * 5)) = some (.int .i64 a.f4[i].f0) ∧ w'.cell? ⟨(ad.add (i * 5)).block, (ad.add (i * 5)).off + 1, none⟩ = some (.int .i64 a.f4[i].f1) ∧ w'.cell? ⟨(ad.add (i * 5)).block, (ad.add (i * 5)).off + 2, none⟩ = some (.string a.f4[i].f2) ∧ w'.cell? ⟨(ad.add (i * 5)).block, (ad.add (i * 5)).off + 3, none⟩ = some (.slice X3 a.f4[i].f3.length e3) ∧ w'.cell? ⟨(ad.add (i * 5)).block, (ad.add (i * 5)).off + 4, none⟩ = some (.slice X4 a.f4[i].f4.length e4) ∧ w'.cell? (bd.add (i * 5)) = some (.int .i64 b.f4[i].f0) ∧ w'.cell? ⟨(bd.add (i * 5)).block, (bd.add (i * 5)).off + 1, none⟩ = some (.int .i64 b.f4[i].f1) ∧ w'.cell? ⟨(bd.add (i * 5)).block, (bd.add (i * 5)).off + 2, none⟩ = some (.string b.f4[i].f2) ∧ w'.cell? ⟨(bd.add (i * 5)).block, (bd.add (i * 5)).off + 3, none⟩ = some (.slice Y3 b.f4[i].f3.length h3') ∧ w'.cell? ⟨(bd.add (i * 5)).block, (bd.add (i * 5)).off + 4, none⟩ = some (.slice Y4 b.f4[i].f4.length h4'))
                ((refine and_of (fun hB_ => ⟨cell_up hB_ p4, cell_up hB_ q4, cell_up hB_ x0, cell_up hB_ x1, cell_up hB_ x2, cell_up hB_ x3, cell_up hB_ x4, cell_up hB_ y0, cell_up hB_ y1, cell_up hB_ y2, cell_up hB_ y3, cell_up hB_ y4⟩) ?_; first | (with_reducible exact (Below.refl _ _).drew) | (with_reducible exact ((Below.refl _ _).alloc (Nat.le_refl _) _).drew) | (with_reducible exact below_call' (And.left (by assumption)) (by assumption)) | (with_reducible exact below_realloc' (And.left (by assumption)) (by omega) _) | (with_reducible exact Below.alloc (And.left (by assumption)) (by first | omega | exact (And.left (by assumption)).size) _) | ((repeat' (with_reducible refine Below.setCell ?_ ?_ _)) <;> first | (exact Nat.le_refl wr.heap.size) | omega | (with_reducible exact And.left (by assumption)))))
                (first
                  | (go_at_call 19; refine (rfuse_c n a.f4[i] b.f4[i] hsz hsmi (hba.all _ (List.getElem_mem hi)) (hbb.all _ (List.getElem_mem hib)) _ X3 e3 X4 e4 Y3 h3' Y4 h4' _ (fx.below (chain brX (And.left (by assumption)))) (fy.below (chain brX (And.left (by assumption))))).mono ?_; rw [hfi]; rintro e w5 ⟨hb5, rfl⟩; have sz := hb5.size; (try simp only [World.size_alloc, World.size_drew] at sz); first | (with_reducible have kT := blk_below (blk_new wr _) hb5; have zb := five kT) | (with_reducible have kT := blk_below (blk_drew (blk_new wr _)) hb5; have zb := five kT) | skip))
              · rename_i hH
                have kT1 := blk_new w5 (.cells #[.int .i64 z25.f0, .int .i64 z25.f1, .string z25.f2, .slice none z25.f3.length 0, .slice none z25.f4.length 0] 25)
                have lT : wr.heap.size ≤ w5.heap.size := by omega
                have bX1 : Below wr.heap.size wr _ := hH.1
                clear hH
                generalize hX1 : World.alloc w5 _ = X1 at kT1 bX1 ⊢
                generalize hgT : w5.heap.size = gT at kT1 lT ⊢
                have lT2 := lT
                clear hb5 sz lT hX1 hgT
                revert X1 gT
                exact hmain.out
              · rename_i hH
                have kT1 := stored kT (.int .i64 z25.f0) (.int .i64 z25.f1) (.string z25.f2) (.slice none z25.f3.length 0) (.slice none z25.f4.length 0)
                have lT : wr.heap.size ≤ wr.heap.size := Nat.le_refl _
                have bX1 : Below wr.heap.size wr _ := hH.1
                clear hH
                generalize hX1 : World.setCell (World.setCell _ _ _) ⟨_, 4, none⟩ _ = X1 at kT1 bX1 ⊢
                obtain ⟨gT, hgT⟩ : ∃ gT, gT = wr.heap.size := ⟨_, rfl⟩
                rw [← hgT] at kT1 ⊢
                have lT2 : wr.heap.size ≤ gT := by omega
                clear hb5 sz lT hX1 hgT kT zb
                revert X1 gT
                exact hmain.out
            case cont =>
              intro X1 bX1 gT kT1 lT2
              clear p4 q4 x0 x1 x2 x3 x4 y0 y1 y2 y3 y4
              have br1 := chain brX bX1
              replace kA := blk_below kA bX1
              replace kB := blk_below kB bX1
              replace kR := blk_below kR bX1
              replace kU := blk_below kU bX1
              replace HO := Kd.N_below HO bX1
              obtain ⟨⟨r0, r1, r2, r3, r4⟩, ⟨s0, s1, s2, s3, s4⟩, lr'⟩ := five kR
              go_wp2
              (try simp only [Exit.inBlock, Exit.then]); refine bodyPost_ret (results_ct rfl _ _ _ 25 _ (0, 0) _ rfl (stored kR _ _ _ _ _) Try.underlying25 rfl (by kernel_rfl)) rfl ?_
              refine FuseOut.no (below_stored br1 (by omega) _ _ _ _ _) ?_
              rw [HQ.out, HF.out, fuse_step _ _ i hi hib, hfi]
              rfl
          | some u =>
            refine with_cont (G := ?Gsome) ?cont fun hmain => ?reg
            case reg =>
              go_region_held3 (fun w' => Below wr.heap.size wr w' ∧ w'.cell? ⟨w.heap.size, 4, none⟩ = some (.slice (some ad) a.f4.length c4) ∧ w'.cell? ⟨w.heap.size + 1, 4, none⟩ = some (.slice (some bd) b.f4.length d4) ∧ w'.cell? (ad.add (i * 5)) = some (.int .i64 a.f4[i].f0) ∧ w'.cell? ⟨(ad.add (i * 5)).block, (ad.add (i * 5)).off + 1, none⟩ = some (.int .i64 a.f4[i].f1) ∧ w'.cell? ⟨(ad.add (i * 5)).block, (ad.add (i * 5)).off + 2, none⟩ = some (.string a.f4[i].f2) ∧ w'.cell? ⟨(ad.add (i * 5)).block, (ad.add (i * 5)).off + 3, none⟩ = some (.slice X3 a.f4[i].f3.length e3) ∧ w'.cell? ⟨(ad.add (i * 5)).block, (ad.add (i * 5)).off + 4, none⟩ = some (.slice X4 a.f4[i].f4.length e4) ∧ w'.cell? (bd.add (i * 5)) = some (.int .i64 b.f4[i].f0) ∧ w'.cell? ⟨(bd.add (i * 5)).block, (bd.add (i * 5)).off + 1, none⟩ = some (.int .i64 b.f4[i].f1) ∧ w'.cell? ⟨(bd.add (i * 5)).block, (bd.add (i * 5)).off + 2, none⟩ = some (.string b.f4[i].f2) ∧ w'.cell? ⟨(bd.add (i * 5)).block, (bd.add (i * 5)).off + 3, none⟩ = some (.slice Y3 b.f4[i].f3.length h3') ∧ w'.cell? ⟨(bd.add (i * 5)).block, (bd.add (i * 5)).off + 4, none⟩ = some (.slice Y4 b.f4[i].f4.length h4'))
                ((refine and_of (fun hB_ => ⟨cell_up hB_ p4, cell_up hB_ q4, cell_up hB_ x0, cell_up hB_ x1, cell_up hB_ x2, cell_up hB_ x3, cell_up hB_ x4, cell_up hB_ y0, cell_up hB_ y1, cell_up hB_ y2, cell_up hB_ y3, cell_up hB_ y4⟩) ?_; first | (with_reducible exact (Below.refl _ _).drew) | (with_reducible exact ((Below.refl _ _).alloc (Nat.le_refl _) _).drew) | (with_reducible exact below_call' (And.left (by assumption)) (by assumption)) | (with_reducible exact below_realloc' (And.left (by assumption)) (by omega) _) | (with_reducible exact Below.alloc (And.left (by assumption)) (by first | omega | exact (And.left (by assumption)).size) _) | ((repeat' (with_reducible refine Below.setCell ?_ ?_ _)) <;> first | (exact Nat.le_refl wr.heap.size) | omega | (with_reducible exact And.left (by assumption)))))
                (first
                  | (go_at_call 19; refine (rfuse_c n a.f4[i] b.f4[i] hsz hsmi (hba.all _ (List.getElem_mem hi)) (hbb.all _ (List.getElem_mem hib)) _ X3 e3 X4 e4 Y3 h3' Y4 h4' _ (fx.below (chain brX (And.left (by assumption)))) (fy.below (chain brX (And.left (by assumption))))).mono ?_; rw [hfi]; rintro e w5 ⟨hb5, C3, g3, C4, g4, rfl, hft⟩; have sz := hb5.size; (try simp only [World.size_alloc, World.size_drew] at sz); first | (with_reducible have kT := blk_below (blk_new wr _) hb5; have zb := five kT) | (with_reducible have kT := blk_below (blk_drew (blk_new wr _)) hb5; have zb := five kT) | skip))
              · rename_i hH
                have kT1 := blk_new w5 (.cells #[.int .i64 u.f0, .int .i64 u.f1, .string u.f2, .slice C3 u.f3.length g3, .slice C4 u.f4.length g4] 25)
                have ft1 : FT _ (fun k => (ok0 k ∧ k < w.heap.size) ∨ wr.heap.size ≤ k) u C3 g3 C4 g4 := (hft.mono (fun k hk => by rcases hk with hk | hk; exact .inl hk; exact .inr (by simpa using hk))).below (below_alloc1 w5 (.cells #[.int .i64 u.f0, .int .i64 u.f1, .string u.f2, .slice C3 u.f3.length g3, .slice C4 u.f4.length g4] 25))
                have lT : wr.heap.size ≤ w5.heap.size := by omega
                have bX1 : Below wr.heap.size wr _ := hH.1
                clear hH
                generalize hX1 : World.alloc w5 _ = X1 at kT1 bX1 ft1 ⊢
                generalize hgT : w5.heap.size = gT at kT1 lT ⊢
                have lT2 := lT
                clear hft
                clear hb5 sz lT hX1 hgT
                revert C3 g3 C4 g4 X1 gT
                exact hmain.out
              · rename_i hH
                have kT1 := stored kT (.int .i64 u.f0) (.int .i64 u.f1) (.string u.f2) (.slice C3 u.f3.length g3) (.slice C4 u.f4.length g4)
                have ft1 : FT _ (fun k => (ok0 k ∧ k < w.heap.size) ∨ wr.heap.size ≤ k) u C3 g3 C4 g4 := (hft.stored (g := wr.heap.size) (fun k hk => by have := brX.size; rcases hk with hk | hk; (have := hk.2; omega); (simp only [World.size_alloc, World.size_drew] at hk; omega)) (.int .i64 u.f0) (.int .i64 u.f1) (.string u.f2) (.slice C3 u.f3.length g3) (.slice C4 u.f4.length g4)).mono (fun k hk => by rcases hk with hk | hk; exact .inl hk; exact .inr (by simp only [World.size_alloc, World.size_drew] at hk; omega))
                have lT : wr.heap.size ≤ wr.heap.size := Nat.le_refl _
                have bX1 : Below wr.heap.size wr _ := hH.1
                clear hH
                generalize hX1 : World.setCell (World.setCell _ _ _) ⟨_, 4, none⟩ _ = X1 at kT1 bX1 ft1 ⊢
                obtain ⟨gT, hgT⟩ : ∃ gT, gT = wr.heap.size := ⟨_, rfl⟩
                rw [← hgT] at kT1 ⊢
                have lT2 : wr.heap.size ≤ gT := by omega
                clear hft
                clear hb5 sz lT hX1 hgT kT zb
                revert C3 g3 C4 g4 X1 gT
                exact hmain.out
            case cont =>
              intro C3 g3 C4 g4 X1 bX1 ft1 gT kT1 lT2
              have hlt := Kd.N_lt HO
              have hbs := Kd.N_base HO
              clear p4 q4 x0 x1 x2 x3 x4 y0 y1 y2 y3 y4
              have br1 := chain brX bX1
              replace kA := blk_below kA bX1
              replace kB := blk_below kB bX1
              replace kR := blk_below kR bX1
              replace kU := blk_below kU bX1
              replace HO := Kd.N_below HO bX1
              obtain ⟨⟨r0, r1, r2, r3, r4⟩, ⟨s0, s1, s2, s3, s4⟩, lr'⟩ := five kR
              obtain ⟨⟨u0, u1, u2, u3, u4⟩, ⟨t0, t1, t2, t3, t4⟩, lu2⟩ := five kU
              obtain ⟨⟨v0, v1, v2, v3, v4⟩, _, lt2⟩ := five kT1
              have hown : ∀ g, g ≤ gU → some g ≠ (Value.slice Av xs.length cv).ownBlock := fun g hg he => by have h1 := HO.1 g he.symm; have h2 := Kd.N_base HO g he.symm; rcases h1 with h1 | h1; (have := h1.2; omega); omega
              have hlen : (xs ++ [u]).length = i + 1 := by rw [List.length_append, HXL.out]; rfl
              have hokp : ∀ k, ((ok0 k ∧ k < w.heap.size) ∨ wr.heap.size ≤ k) → ((ok0 k ∧ k < w.heap.size) ∨ gU < k) ∧ some k ≠ (Value.slice Av xs.length cv).ownBlock := fun k hk => ⟨by rcases hk with hk | hk; exact .inl hk; exact .inr (by omega), fun he => by have h1 := hbs k he.symm; have h2 := hlt k he.symm; rcases hk with hk | hk; (have := hk.2; omega); omega⟩
              have hfre : ∀ k, X1.heap.size ≤ k → ((ok0 k ∧ k < w.heap.size) ∨ gU < k) := fun k hk => .inr (by have := bX1.size; omega)
              go_wp2_with (first | (at_builtin; refine Kd.N_append kTy (w0 := w) w.heap.size rfl (.tmp 55) (.tmp 57) 23 25 (.agg #[(.int .i64 0), (.int .i64 0), (.string ⟨#[]⟩), (.slice none 0 0), (.slice none 0 0)]) 80 rfl Try.underlying23 info25 rfl (by decide) (by omega) (.slice Av xs.length cv) xs u (tcells u C3 g3 C4 g4) (fun k => (ok0 k ∧ k < w.heap.size) ∨ gU < k) (fun k => (ok0 k ∧ k < w.heap.size) ∨ wr.heap.size ≤ k) rfl rfl ft1.fk ?aP ?aF HO br1 (by have := br1.size; omega) (by have := HXL.out; omega) ?_; (case aP => exact hokp); (case aF => exact hfre); intro v1 w1 hN1 hB1 hg1 hat1; obtain ⟨A1, c1, rfl⟩ := Kd.N_slice hN1; rw [hlen] at hN1 ⊢; replace kA := blk_grown kA hg1 (hown _ (by omega)); replace kB := blk_grown kB hg1 (hown _ (by omega)); replace kR := blk_grown kR hg1 (hown _ (by omega)); replace kU := blk_grown kU hg1 (hown _ (by omega)); have z1 := five kU))
              go_roundg k1
              case measure => omega
              case rel => exact ⟨i + 1, .slice A1 (i + 1) c1, xs ++ [u], (by first | rfl | (simp; done) | (push_cast; rfl)), by omega, hlen, (by rw [HF.out, fuse_step _ _ i hi hib, hfi]; cases fuseAll (a.f4.drop (i + 1)) (b.f4.drop (i + 1)) <;> simp), Kd.N_far hN1 (fun k hk => by dsimp only; rcases hk with hk | hk; (have := hk.2; omega); omega) _, blk_set kU 4 _, blk_far kA (by dsimp only; omega) _, blk_far kB (by dsimp only; omega) _, blk_far kR (by dsimp only; omega) _, below_set hB1 (by omega)⟩
        · have cn : decide ((i : Int) < (a.f4.length : Int)) = false := decide_eq_false (by omega)
          have HQ := Aside0.mk hq
          have HF := Aside0.mk hfa
          clear hq hfa
          go_wp2
          (try simp only [Exit.inBlock, Exit.then])
          refine bodyPost_ret (results_ct rfl _ _ _ 25 _ (0, 0) _ rfl (stored kR _ _ _ _ _) Try.underlying25 rfl (by kernel_rfl)) rfl ?_
          refine FuseOut.yes (u := ⟨a.f0, a.f1, a.f2, a.f3, xs⟩) (below_stored br (by omega) _ _ _ _ _) ?_ ((FT.stored (w := wr) (ok := fun k => (ok0 k ∧ k < w.heap.size) ∨ gU < k) (x := ⟨a.f0, a.f1, a.f2, a.f3, xs⟩) (A3 := A3) (c3 := c3) (A4 := Av) (c4 := cv) (g := w.heap.size + 1 + 1) ⟨ha.1, Kd.F_mono (Kd.F_below ha.2.1 br) (fun k hk => .inl hk), (Kd.N_reads' HO).2.1, Kd.N_F HO⟩ (fun k hk => by rcases hk with hk | hk; (have := hk.2; omega); omega) _ _ _ _ _).mono (fun k hk => by rcases hk with hk | hk; exact .inl hk.1; exact .inr (by omega)))
          rw [HQ.out, HF.out, List.drop_eq_nil_of_le (show a.f4.length ≤ i by omega)]
          simp [fuseAll]
    rw [if_neg h3] at hq
    replace h3 : likeTy a b = false := by simpa using h3
    go_enter Try.func19, Try.ntmps19
    go_wp2_with fail
    go_call (rdyn_c hbb (hb.below b0)) as e w1 ⟨he, hb1⟩
    rw [h1] at he
    subst he
    have b1 := chain b0 hb1
    replace kA := blk_below kA hb1
    replace kB := blk_below kB hb1
    replace kR := blk_below kR hb1
    clear b0 hb1
    obtain ⟨⟨p0, p1, p2, p3, p4⟩, _, la⟩ := five kA
    obtain ⟨⟨q0, q1, q2, q3, q4⟩, _, lb⟩ := five kB
    obtain ⟨⟨r0, r1, r2, r3, r4⟩, ⟨s0, s1, s2, s3, s4⟩, lr⟩ := five kR
    go_wp2_with fail
    go_call (rdyn_c hba (ha.below b1)) as e w2 ⟨he, hb2⟩
    rw [h2] at he
    subst he
    have b2 := chain b1 hb2
    replace kA := blk_below kA hb2
    replace kB := blk_below kB hb2
    replace kR := blk_below kR hb2
    clear b1 hb2
    clear p0 p1 p2 p3 p4 la q0 q1 q2 q3 q4 lb r0 r1 r2 r3 r4 s0 s1 s2 s3 s4 lr
    obtain ⟨⟨p0, p1, p2, p3, p4⟩, _, la⟩ := five kA
    obtain ⟨⟨q0, q1, q2, q3, q4⟩, _, lb⟩ := five kB
    obtain ⟨⟨r0, r1, r2, r3, r4⟩, ⟨s0, s1, s2, s3, s4⟩, lr⟩ := five kR
    go_wp2_with fail
    go_call (ralike_c hba (ha.below b2) (hb.below b2)) as e w3 ⟨he, hb3⟩
    rw [h3] at he
    subst he
    have b3 := chain b2 hb3
    replace kA := blk_below kA hb3
    replace kB := blk_below kB hb3
    replace kR := blk_below kR hb3
    clear b2 hb3
    clear p0 p1 p2 p3 p4 la q0 q1 q2 q3 q4 lb r0 r1 r2 r3 r4 s0 s1 s2 s3 s4 lr
    obtain ⟨⟨p0, p1, p2, p3, p4⟩, _, la⟩ := five kA
    obtain ⟨⟨q0, q1, q2, q3, q4⟩, _, lb⟩ := five kB
    obtain ⟨⟨r0, r1, r2, r3, r4⟩, ⟨s0, s1, s2, s3, s4⟩, lr⟩ := five kR
    go_wp2
    refine bodyPost_ret (results_ct rfl _ _ _ 25 _ (0, 0) _ rfl (stored kR _ _ _ _ _) Try.underlying25 rfl (by kernel_rfl)) rfl ?_
    exact FuseOut.no (below_stored b3 (by omega) _ _ _ _ _) hq
end Go.Proofs.Ytnfnhjhnfdkinaa.PPrecTells

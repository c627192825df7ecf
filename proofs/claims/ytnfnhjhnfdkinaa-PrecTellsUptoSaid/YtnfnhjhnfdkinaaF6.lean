/-
  prec: the walk of the law's own awake.
-/
import Derived.Test.YtnfnhjhnfdkinaaF1
import Derived.Test.YtnfnhjhnfdkinaaF4
import Derived.Test.YtnfnhjhnfdkinaaF5
import Derived.KernelRfl
namespace Go.Proofs.Ytnfnhjhnfdkinaa.PPrecTells
open Go.RowKit Go.Proofs.YtnfnhjhnfdkinaaW.Mine Go.Proofs.YtnfnhjhnfdkinaaW.PrintWords Go.Proofs.YtnfnhjhnfdkinaaW.PrintLast Go.Proofs.YtnfnhjhnfdkinaaW.PrintMore
attribute [local go_sem] max2_int min2_int max_two min_two max_three min_three max_four min_four
set_option linter.unusedVariables false
set_option linter.unusedSimpArgs false
theorem FT.al {w : World} {ok : Nat → Prop} {x : Ty} {A3 A4 : Option Addr} {c3 c4 : Nat} (h : FT w ok x A3 c3 A4 c4) (o : Obj) : FT (w.alloc o) ok x A3 c3 A4 c4 := h.below (below_alloc2 _ _)
theorem FT.dr {w : World} {ok : Nat → Prop} {x : Ty} {A3 A4 : Option Addr} {c3 c4 : Nat} (h : FT w ok x A3 c3 A4 c4) : FT w.drew ok x A3 c3 A4 c4 := h.below (Below.refl _ _).drew
theorem sm_simple (k : Int) : Sm (simpleTy k) := .mk _ (by simp) (fun y h => by cases h)
theorem sm_fun (a b : Ty) (ha : Sm a) (hb : Sm b) : Sm (funTy a b) := .mk _ (by simp) (fun y h => by rcases List.mem_cons.1 h with rfl | h; exact ha; rcases List.mem_cons.1 h with rfl | h; exact hb; cases h)
theorem sm_id : Sm (funTy (simpleTy 1) (simpleTy 5)) := sm_fun _ _ (sm_simple 1) (sm_simple 5)
theorem sm_ii : Sm (funTy (simpleTy 1) (simpleTy 1)) := sm_fun _ _ (sm_simple 1) (sm_simple 1)
theorem fuse_id : fuse (funTy (simpleTy 1) (simpleTy 5)) (funTy (simpleTy 5) (simpleTy 1)) = some (funTy (simpleTy 1) (simpleTy 1)) := by kernel_rfl
theorem cut_ii : cutO (funTy (simpleTy 1) (simpleTy 1)) 2 = some (funTy (simpleTy 1) (simpleTy 5)) := by kernel_rfl
theorem same_1 : limbeckref04_Same.f 30 (funTy (simpleTy 1) (simpleTy 1)).f0 (funTy (simpleTy 1) (simpleTy 1)).f1 (funTy (simpleTy 1) (simpleTy 1)).f2 (funTy (simpleTy 1) (simpleTy 1)).f3 (funTy (simpleTy 1) (simpleTy 1)).f4 (funTy (simpleTy 1) (simpleTy 1)).f0 (funTy (simpleTy 1) (simpleTy 1)).f1 (funTy (simpleTy 1) (simpleTy 1)).f2 (funTy (simpleTy 1) (simpleTy 1)).f3 (funTy (simpleTy 1) (simpleTy 1)).f4 = some true := by kernel_rfl
theorem same_2 : limbeckref04_Same.f 30 (funTy (simpleTy 1) (simpleTy 5)).f0 (funTy (simpleTy 1) (simpleTy 5)).f1 (funTy (simpleTy 1) (simpleTy 5)).f2 (funTy (simpleTy 1) (simpleTy 5)).f3 (funTy (simpleTy 1) (simpleTy 5)).f4 (funTy (simpleTy 1) (simpleTy 5)).f0 (funTy (simpleTy 1) (simpleTy 5)).f1 (funTy (simpleTy 1) (simpleTy 5)).f2 (funTy (simpleTy 1) (simpleTy 5)).f3 (funTy (simpleTy 1) (simpleTy 5)).f4 = some true := by kernel_rfl
theorem less_yes : less (funTy (simpleTy 1) (simpleTy 1)) (funTy (simpleTy 1) (simpleTy 5)) = true := by kernel_rfl
theorem less_no : less (funTy (simpleTy 1) (simpleTy 5)) (funTy (simpleTy 1) (simpleTy 1)) = false := by kernel_rfl
theorem two_boxes (w : World) (c d : Array Value) (t : TypeId) : let W := (w.alloc (.cells c t)).alloc (.cells d t)
    W.heap[w.heap.size]? = some (.cells c t (0, 0)) ∧ W.heap[w.heap.size + 1]? = some (.cells d t (0, 0)) ∧ Below w.heap.size w W := by
  have k := blk_new (w.alloc (.cells c t)) (.cells d t)
  simp only [World.size_alloc] at k
  exact ⟨blk_alloc (blk_new w _) _, k, chain (below_alloc2 _ _) (below_alloc2 _ _)⟩
theorem FT.hide {w : World} {ok : Nat → Prop} {x : Ty} {A3 A4 : Option Addr} {c3 c4 : Nat} (h : FT w ok x A3 c3 A4 c4) : ∃ P : Nat → Prop, (∀ k, P k → ok k ∧ k < w.heap.size) ∧ FT w P x A3 c3 A4 c4 := ⟨_, fun _ h => h, h.bound⟩
set_option maxHeartbeats 40000000 in
set_option maxRecDepth 100000 in
theorem awake_c (w : World) : Calls Try.prog 15 #[] w fun e w' => e = .returned (.bool true) ∧ Below w.heap.size w w' := by
  go_enter Try.func15, Try.ntmps15
  go_wp2_with fail
  go_call (simple_c 1) as e w1 ⟨he, hb1⟩
  subst he
  go_wp2_with fail
  go_call (dyn_c) as e w2 ⟨he, hb2⟩
  subst he
  have b2 := chain hb1 hb2
  clear hb1 hb2
  obtain ⟨kI, kD, b3⟩ := two_boxes w2 #[.int .i64 1, .int .i64 0, .string ⟨#[]⟩, .slice none 0 0, .slice none 0 0] #[.int .i64 5, .int .i64 0, .string ⟨#[]⟩, .slice none 0 0, .slice none 0 0] 25
  have b4 := chain b2 b3
  clear b2 b3
  go_wp2_with fail
  generalize hX : (w2.alloc _).alloc _ = X at kI kD b4 ⊢
  generalize hgi : w2.heap.size = gi at kI kD ⊢
  clear hX
  obtain ⟨⟨i0, i1, i2, i3, i4⟩, _, li⟩ := five kI
  obtain ⟨⟨d0, d1, d2, d3, d4⟩, _, ld⟩ := five kD
  refine with_cont (G := ?G) ?cont fun hmain => ?reg
  case reg =>
    go_region_held3 (fun w' => Below X.heap.size X w' ∧ w'.cell? ⟨gi, 0, none⟩ = some (.int .i64 1) ∧ w'.cell? ⟨gi, 1, none⟩ = some (.int .i64 0) ∧ w'.cell? ⟨gi, 2, none⟩ = some (.string ⟨#[]⟩) ∧ w'.cell? ⟨gi, 3, none⟩ = some (.slice none 0 0) ∧ w'.cell? ⟨gi, 4, none⟩ = some (.slice none 0 0) ∧ w'.cell? ⟨gi + 1, 0, none⟩ = some (.int .i64 5) ∧ w'.cell? ⟨gi + 1, 1, none⟩ = some (.int .i64 0) ∧ w'.cell? ⟨gi + 1, 2, none⟩ = some (.string ⟨#[]⟩) ∧ w'.cell? ⟨gi + 1, 3, none⟩ = some (.slice none 0 0) ∧ w'.cell? ⟨gi + 1, 4, none⟩ = some (.slice none 0 0))
      ((refine and_of (fun hB_ => ⟨cell_up hB_ i0, cell_up hB_ i1, cell_up hB_ i2, cell_up hB_ i3, cell_up hB_ i4, cell_up hB_ d0, cell_up hB_ d1, cell_up hB_ d2, cell_up hB_ d3, cell_up hB_ d4⟩) ?_; first | (with_reducible exact (Below.refl _ _).drew) | (with_reducible exact ((Below.refl _ _).alloc (Nat.le_refl _) _).drew) | (with_reducible exact below_call' (And.left (by assumption)) (by assumption)) | (with_reducible exact below_realloc' (And.left (by assumption)) (by omega) _) | (with_reducible exact Below.alloc (And.left (by assumption)) (by first | omega | exact (And.left (by assumption)).size) _) | ((repeat' (with_reducible refine Below.setCell ?_ ?_ _)) <;> first | (exact Nat.le_refl X.heap.size) | omega | (dsimp only; omega) | (with_reducible exact And.left (by assumption)))))
      (first
        | (go_at_call 53; refine (fun_c (simpleTy 1) (simpleTy 5) (FT.nil _ (fun _ => False) 1) (FT.nil _ (fun _ => False) 5)).mono ?_; rintro e wA ⟨C3, e3, C4, e4, rfl, hfA0, hb⟩; obtain ⟨PA, hPA, hfA⟩ := hfA0.hide; clear hfA0; have sz := hb.size; (try simp only [World.size_alloc, World.size_drew] at sz); first | (with_reducible have kT := blk_below (blk_new _ _) hb; have zb := five kT) | (with_reducible have kT := blk_below (blk_drew (blk_new _ _)) hb; have zb := five kT) | (with_reducible have kT := blk_below kT hb; have zb := five kT) | (with_reducible have kT := blk_below (blk_drew kT) hb; have zb := five kT) | skip)
        | (go_at_call 53; refine (fun_c (simpleTy 5) (simpleTy 1) (FT.nil _ (fun _ => False) 5) (FT.nil _ (fun _ => False) 1)).mono ?_; rintro e wB ⟨D3, f3, D4, f4, rfl, hfB0, hb⟩; obtain ⟨PB, hPB, hfB⟩ := hfB0.hide; clear hfB0; have sz := hb.size; (try simp only [World.size_alloc, World.size_drew] at sz); first | (with_reducible have kT := blk_below (blk_new _ _) hb; have zb := five kT) | (with_reducible have kT := blk_below (blk_drew (blk_new _ _)) hb; have zb := five kT) | (with_reducible have kT := blk_below kT hb; have zb := five kT) | (with_reducible have kT := blk_below (blk_drew kT) hb; have zb := five kT) | skip)
        | (go_at_call 18; refine (fuse_c _ (funTy (simpleTy 1) (simpleTy 5)) (funTy (simpleTy 5) (simpleTy 1)) (Nat.lt_succ_self _) sm_id (fun k => PA k ∨ PB k) C3 e3 C4 e4 D3 f3 D4 f4 _ (FT.mono (ok := PA) (by repeat' (first | (with_reducible assumption) | (with_reducible refine FT.dr ?_) | (with_reducible refine FT.al ?_ _) | (with_reducible refine FT.below ?_ (by with_reducible assumption)))) (fun k hk => Or.inl hk)) (FT.mono (ok := PB) (by repeat' (first | (with_reducible assumption) | (with_reducible refine FT.dr ?_) | (with_reducible refine FT.al ?_ _) | (with_reducible refine FT.below ?_ (by with_reducible assumption)))) (fun k hk => Or.inr hk))).mono ?_; rw [fuse_id]; rintro e wC ⟨hb, G3, h3, G4, h4, rfl, hfT⟩; have sz := hb.size; (try simp only [World.size_alloc, World.size_drew] at sz); first | (with_reducible have kT := blk_below (blk_new _ _) hb; have zb := five kT) | (with_reducible have kT := blk_below (blk_drew (blk_new _ _)) hb; have zb := five kT) | (with_reducible have kT := blk_below kT hb; have zb := five kT) | (with_reducible have kT := blk_below (blk_drew kT) hb; have zb := five kT) | skip))
    · rename_i hH
      have kT1 := blk_new wC (.cells #[.int .i64 7, .int .i64 0, .string ⟨#[]⟩, .slice G3 0 h3, .slice G4 2 h4] 25)
      have ft1 : FT _ (fun _ => True) (funTy (simpleTy 1) (simpleTy 1)) G3 h3 G4 h4 := (hfT.al (.cells #[.int .i64 7, .int .i64 0, .string ⟨#[]⟩, .slice G3 0 h3, .slice G4 2 h4] 25)).mono (fun _ _ => trivial)
      have lT : X.heap.size ≤ wC.heap.size := by omega
      have bX1 : Below X.heap.size X _ := hH.1
      clear hH
      generalize hX1 : World.alloc wC _ = X1 at kT1 bX1 ft1 ⊢
      generalize hgT : wC.heap.size = gT at kT1 lT ⊢
      have lT2 := lT
      clear hfA hfB hfT hPA hPB hX1 hgT lT
      revert C3 e3 C4 e4 D3 f3 D4 f4 G3 h3 G4 h4 X1 gT
      exact hmain.out
    · rename_i hH
      have kT1 := stored kT (.int .i64 7) (.int .i64 0) (.string ⟨#[]⟩) (.slice G3 0 h3) (.slice G4 2 h4)
      have ft1 : FT _ (fun _ => True) (funTy (simpleTy 1) (simpleTy 1)) G3 h3 G4 h4 := (hfT.stored (g := wB.heap.size) (fun k hk => by intro he; rcases hk with (hk | hk) | hk; (have h1 := hPA k hk; (try simp only [World.size_alloc, World.size_drew, false_or, or_self] at h1); omega); (have h1 := hPB k hk; (try simp only [World.size_alloc, World.size_drew, false_or, or_self] at h1); omega); ((try simp only [World.size_alloc, World.size_drew, false_or, or_self] at hk); omega)) (.int .i64 7) (.int .i64 0) (.string ⟨#[]⟩) (.slice G3 0 h3) (.slice G4 2 h4)).mono (fun _ _ => trivial)
      have lT : X.heap.size ≤ wB.heap.size := by omega
      have bX1 : Below X.heap.size X _ := hH.1
      clear hH
      generalize hX1 : World.setCell (World.setCell _ _ _) ⟨_, 4, none⟩ _ = X1 at kT1 bX1 ft1 ⊢
      generalize hgT : wB.heap.size = gT at kT1 lT ⊢
      have lT2 := lT
      clear hfA hfB hfT hPA hPB hX1 hgT lT
      revert C3 e3 C4 e4 D3 f3 D4 f4 G3 h3 G4 h4 X1 gT
      exact hmain.out
    · rename_i hH
      have kT1 := stored kT (.int .i64 7) (.int .i64 0) (.string ⟨#[]⟩) (.slice G3 0 h3) (.slice G4 2 h4)
      have ft1 : FT _ (fun _ => True) (funTy (simpleTy 1) (simpleTy 1)) G3 h3 G4 h4 := (hfT.stored (g := wA.heap.size) (fun k hk => by intro he; rcases hk with (hk | hk) | hk; (have h1 := hPA k hk; (try simp only [World.size_alloc, World.size_drew, false_or, or_self] at h1); omega); (have h1 := hPB k hk; (try simp only [World.size_alloc, World.size_drew, false_or, or_self] at h1); omega); ((try simp only [World.size_alloc, World.size_drew, false_or, or_self] at hk); omega)) (.int .i64 7) (.int .i64 0) (.string ⟨#[]⟩) (.slice G3 0 h3) (.slice G4 2 h4)).mono (fun _ _ => trivial)
      have lT : X.heap.size ≤ wA.heap.size := by omega
      have bX1 : Below X.heap.size X _ := hH.1
      clear hH
      generalize hX1 : World.setCell (World.setCell _ _ _) ⟨_, 4, none⟩ _ = X1 at kT1 bX1 ft1 ⊢
      generalize hgT : wA.heap.size = gT at kT1 lT ⊢
      have lT2 := lT
      clear hfA hfB hfT hPA hPB hX1 hgT lT
      revert C3 e3 C4 e4 D3 f3 D4 f4 G3 h3 G4 h4 X1 gT
      exact hmain.out
    · rename_i hH
      have kT1 := stored kT (.int .i64 7) (.int .i64 0) (.string ⟨#[]⟩) (.slice G3 0 h3) (.slice G4 2 h4)
      have ft1 : FT _ (fun _ => True) (funTy (simpleTy 1) (simpleTy 1)) G3 h3 G4 h4 := (hfT.stored (g := X.heap.size) (fun k hk => by intro he; rcases hk with (hk | hk) | hk; (have h1 := hPA k hk; (try simp only [World.size_alloc, World.size_drew, false_or, or_self] at h1); omega); (have h1 := hPB k hk; (try simp only [World.size_alloc, World.size_drew, false_or, or_self] at h1); omega); ((try simp only [World.size_alloc, World.size_drew, false_or, or_self] at hk); omega)) (.int .i64 7) (.int .i64 0) (.string ⟨#[]⟩) (.slice G3 0 h3) (.slice G4 2 h4)).mono (fun _ _ => trivial)
      have lT : X.heap.size ≤ X.heap.size := by omega
      have bX1 : Below X.heap.size X _ := hH.1
      clear hH
      generalize hX1 : World.setCell (World.setCell _ _ _) ⟨_, 4, none⟩ _ = X1 at kT1 bX1 ft1 ⊢
      obtain ⟨gT, hgT⟩ : ∃ gT, gT = X.heap.size := ⟨_, rfl⟩
      rw [← hgT] at kT1 ⊢
      have lT2 : X.heap.size ≤ gT := by omega
      clear hfA hfB hfT hPA hPB hX1 hgT lT
      revert C3 e3 C4 e4 D3 f3 D4 f4 G3 h3 G4 h4 X1 gT
      exact hmain.out
  case cont =>
    intro C3 e3 C4 e4 D3 f3 D4 f4 G3 h3 G4 h4 X1 bX1 ft1 gT kT1 lT
    clear i0 i1 i2 i3 i4 li d0 d1 d2 d3 d4 ld
    have b5 := chain b4 bX1
    replace kI := blk_below kI bX1
    replace kD := blk_below kD bX1
    obtain ⟨⟨i0, i1, i2, i3, i4⟩, _, li⟩ := five kI
    obtain ⟨⟨d0, d1, d2, d3, d4⟩, _, ld⟩ := five kD
    obtain ⟨⟨t0, t1, t2, t3, t4⟩, _, lt⟩ := five kT1
    go_wp2_with fail
    go_call (Cut_c (funTy (simpleTy 1) (simpleTy 1)) sm_ii (fun _ => True) G3 h3 G4 h4 2 (by omega) _ ft1) as e w6 ⟨hb6, hco⟩
    rw [cut_ii] at hco
    obtain ⟨U3, m3, U4, m4, he, hfu⟩ := hco
    subst he
    have fu : FT w6 (fun _ => True) (funTy (simpleTy 1) (simpleTy 5)) U3 m3 U4 m4 := hfu.mono (fun _ _ => trivial)
    clear hfu
    clear i0 i1 i2 i3 i4 li d0 d1 d2 d3 d4 ld t0 t1 t2 t3 t4 lt
    replace kI := blk_below kI hb6
    replace kD := blk_below kD hb6
    replace kT1 := blk_below kT1 hb6
    replace ft1 := ft1.below hb6
    have b6 := chain b5 hb6
    have kU := blk_new w6 (.cells #[.int .i64 7, .int .i64 0, .string ⟨#[]⟩, .slice U3 0 m3, .slice U4 2 m4] 25)
    have bU := below_alloc2 w6 (.cells #[.int .i64 7, .int .i64 0, .string ⟨#[]⟩, .slice U3 0 m3, .slice U4 2 m4] 25)
    replace kI := blk_below kI bU
    replace kD := blk_below kD bU
    replace kT1 := blk_below kT1 bU
    replace ft1 := ft1.below bU
    replace fu := fu.below bU
    have b7 := chain b6 bU
    obtain ⟨⟨i0, i1, i2, i3, i4⟩, _, li⟩ := five kI
    obtain ⟨⟨d0, d1, d2, d3, d4⟩, _, ld⟩ := five kD
    obtain ⟨⟨t0, t1, t2, t3, t4⟩, _, lt⟩ := five kT1
    obtain ⟨⟨u0, u1, u2, u3, u4⟩, _, lu⟩ := five kU
    go_wp2_with fail
    generalize hX2 : w6.alloc _ = X2 at kI kD kT1 kU ft1 fu b7 i0 i1 i2 i3 i4 d0 d1 d2 d3 d4 t0 t1 t2 t3 t4 u0 u1 u2 u3 u4 ⊢
    generalize hgU : w6.heap.size = gU at kU u0 u1 u2 u3 u4 ⊢
    clear hX2 hgU bU
    go_region_held3 (fun w' => Below X2.heap.size X2 w' ∧ w'.cell? ⟨gi, 0, none⟩ = some (.int .i64 1) ∧ w'.cell? ⟨gi, 1, none⟩ = some (.int .i64 0) ∧ w'.cell? ⟨gi, 2, none⟩ = some (.string ⟨#[]⟩) ∧ w'.cell? ⟨gi, 3, none⟩ = some (.slice none 0 0) ∧ w'.cell? ⟨gi, 4, none⟩ = some (.slice none 0 0) ∧ w'.cell? ⟨gi + 1, 0, none⟩ = some (.int .i64 5) ∧ w'.cell? ⟨gi + 1, 1, none⟩ = some (.int .i64 0) ∧ w'.cell? ⟨gi + 1, 2, none⟩ = some (.string ⟨#[]⟩) ∧ w'.cell? ⟨gi + 1, 3, none⟩ = some (.slice none 0 0) ∧ w'.cell? ⟨gi + 1, 4, none⟩ = some (.slice none 0 0) ∧ w'.cell? ⟨gT, 0, none⟩ = some (.int .i64 7) ∧ w'.cell? ⟨gT, 1, none⟩ = some (.int .i64 0) ∧ w'.cell? ⟨gT, 2, none⟩ = some (.string ⟨#[]⟩) ∧ w'.cell? ⟨gT, 3, none⟩ = some (.slice G3 0 h3) ∧ w'.cell? ⟨gT, 4, none⟩ = some (.slice G4 2 h4) ∧ w'.cell? ⟨gU, 0, none⟩ = some (.int .i64 7) ∧ w'.cell? ⟨gU, 1, none⟩ = some (.int .i64 0) ∧ w'.cell? ⟨gU, 2, none⟩ = some (.string ⟨#[]⟩) ∧ w'.cell? ⟨gU, 3, none⟩ = some (.slice U3 0 m3) ∧ w'.cell? ⟨gU, 4, none⟩ = some (.slice U4 2 m4))
      ((refine and_of (fun hB_ => ⟨cell_up hB_ i0, cell_up hB_ i1, cell_up hB_ i2, cell_up hB_ i3, cell_up hB_ i4, cell_up hB_ d0, cell_up hB_ d1, cell_up hB_ d2, cell_up hB_ d3, cell_up hB_ d4, cell_up hB_ t0, cell_up hB_ t1, cell_up hB_ t2, cell_up hB_ t3, cell_up hB_ t4, cell_up hB_ u0, cell_up hB_ u1, cell_up hB_ u2, cell_up hB_ u3, cell_up hB_ u4⟩) ?_; first | (with_reducible exact (Below.refl _ _).drew) | (with_reducible exact below_call' (And.left (by assumption)) (by assumption))))
      (first
        | (have _g := wS; go_at_call 53; refine (fun_c (simpleTy 1) (simpleTy 5) (FT.nil _ (fun _ => False) 1) (FT.nil _ (fun _ => False) 5)).mono ?_; rintro e wF ⟨H3, o3, H4, o4, rfl, hfH0, hb⟩; obtain ⟨PF, hPF, hfH⟩ := hfH0.hide; clear hfH0)
        | (go_at_call 53; refine (fun_c (simpleTy 1) (simpleTy 1) (FT.nil _ (fun _ => False) 1) (FT.nil _ (fun _ => False) 1)).mono ?_; rintro e wE ⟨E3, n3, E4, n4, rfl, hfE0, hb⟩; obtain ⟨PE, hPE, hfE⟩ := hfE0.hide; clear hfE0)
        | (have _g := wS; go_at_call 22; refine (rsame_c (funTy (simpleTy 1) (simpleTy 5)) (funTy (simpleTy 1) (simpleTy 5)) 30 true same_2 (A3 := U3) (c3 := m3) (A4 := U4) (c4 := m4) (B3 := H3) (d3 := o3) (B4 := H4) (d4 := o4) (ok := (fun _ => True)) (ok' := PF) (by repeat' (first | (with_reducible assumption) | (with_reducible refine FT.dr ?_) | (with_reducible refine FT.al ?_ _) | (with_reducible refine FT.below ?_ (by with_reducible assumption)))) (by repeat' (first | (with_reducible assumption) | (with_reducible refine FT.dr ?_) | (with_reducible refine FT.al ?_ _) | (with_reducible refine FT.below ?_ (by with_reducible assumption))))).mono ?_; rintro e wR ⟨rfl, hb⟩)
        | (go_at_call 22; refine (rsame_c (funTy (simpleTy 1) (simpleTy 1)) (funTy (simpleTy 1) (simpleTy 1)) 30 true same_1 (A3 := G3) (c3 := h3) (A4 := G4) (c4 := h4) (B3 := E3) (d3 := n3) (B4 := E4) (d4 := n4) (ok := (fun _ => True)) (ok' := PE) (by repeat' (first | (with_reducible assumption) | (with_reducible refine FT.dr ?_) | (with_reducible refine FT.al ?_ _) | (with_reducible refine FT.below ?_ (by with_reducible assumption)))) (by repeat' (first | (with_reducible assumption) | (with_reducible refine FT.dr ?_) | (with_reducible refine FT.al ?_ _) | (with_reducible refine FT.below ?_ (by with_reducible assumption))))).mono ?_; rintro e wS ⟨rfl, hb⟩)
        | (have _g := wL; go_at_call 20; refine (less_c (funTy (simpleTy 1) (simpleTy 5)) (funTy (simpleTy 1) (simpleTy 1)) (A3 := U3) (c3 := m3) (A4 := U4) (c4 := m4) (B3 := G3) (d3 := h3) (B4 := G4) (d4 := h4) (ok := (fun _ => True)) (ok' := (fun _ => True)) (by repeat' (first | (with_reducible assumption) | (with_reducible refine FT.dr ?_) | (with_reducible refine FT.al ?_ _) | (with_reducible refine FT.below ?_ (by with_reducible assumption)))) (by repeat' (first | (with_reducible assumption) | (with_reducible refine FT.dr ?_) | (with_reducible refine FT.al ?_ _) | (with_reducible refine FT.below ?_ (by with_reducible assumption))))).mono ?_; rw [less_no]; rintro e wM ⟨rfl, hb⟩)
        | (go_at_call 20; refine (less_c (funTy (simpleTy 1) (simpleTy 1)) (funTy (simpleTy 1) (simpleTy 5)) (A3 := G3) (c3 := h3) (A4 := G4) (c4 := h4) (B3 := U3) (d3 := m3) (B4 := U4) (d4 := m4) (ok := (fun _ => True)) (ok' := (fun _ => True)) (by repeat' (first | (with_reducible assumption) | (with_reducible refine FT.dr ?_) | (with_reducible refine FT.al ?_ _) | (with_reducible refine FT.below ?_ (by with_reducible assumption)))) (by repeat' (first | (with_reducible assumption) | (with_reducible refine FT.dr ?_) | (with_reducible refine FT.al ?_ _) | (with_reducible refine FT.below ?_ (by with_reducible assumption))))).mono ?_; rw [less_yes]; rintro e wL ⟨rfl, hb⟩)
      )
    rename_i hH
    have bM := hH.1
    clear hH
    go_wp2
    go_ret
    exact ⟨rfl, chain b7 bM⟩
end Go.Proofs.Ytnfnhjhnfdkinaa.PPrecTells

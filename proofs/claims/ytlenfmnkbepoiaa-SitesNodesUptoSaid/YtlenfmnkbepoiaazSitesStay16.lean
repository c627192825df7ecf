/-
  SitesStay: texts of this claim, put together by a program of this session. No conditions beyond what each lemma says.
-/
import Derived.Test.YtlenfmnkbepoiaazSitesStay15
namespace Go.Proofs.Ytlenfmnkbepoiaa.PSitesTell
open Go.RowKit Go.Proofs.YtlenfmnkbepoiaaW.Mine Go.Proofs.YtlenfmnkbepoiaaW.PrintWords Go.Proofs.YtlenfmnkbepoiaaW.PrintLast Go.Proofs.YtlenfmnkbepoiaaW.PrintMore
attribute [local go_sem] max2_int min2_int max_two min_two max_three min_three max_four min_four
set_option linter.unusedVariables false
set_option linter.unusedSimpArgs false
/-- An element of an own row is stored anew. -/
theorem tput_c {W : World} {base i g cap n : Nat} {ok okp : Nat → Prop} {l : List Ty} {x : Ty} {A3 A4 : Option Addr} {c3 c4 : Nat} (h : Kd.N kTy 26 W base ok (.slice (some ⟨g, 0, none⟩) n cap) l) (hi : i < n) (hx : FT W okp x A3 c3 A4 c4) (hokp : ∀ k, okp k → ok k ∧ k ≠ g) :
    Kd.N kTy 26 (W.setCells g (i * 5) (tcells x A3 c3 A4 c4)) base ok (.slice (some ⟨g, 0, none⟩) n cap) (l.set i x) ∧ W.grownBy (W.setCells g (i * 5) (tcells x A3 c3 A4 c4)) (some g) := by
  obtain ⟨c, hcl, _, hcc, _⟩ := Kd.N_elem h z26 (i : Int) (by omega) (by omega)
  obtain ⟨hown, rows, hl, hR, hf⟩ := h
  have heq : c.take 0 ++ tcells x A3 c3 A4 c4 ++ c.drop (0 + (tcells x A3 c3 A4 c4).length) = tcells x A3 c3 A4 c4 := by
    rw [List.drop_eq_nil_of_le (by rw [hcl]; exact Nat.le_refl 5)]; simp
  have h2 := Kd.R_seg (Kd.raw_any hR) (i : Int) (by omega) (by omega) (seg := tcells x A3 c3 A4 c4) (j := 0) (x' := tcells x A3 c3 A4 c4) (okp := fun _ => False) hcl hcc (Nat.le_refl 5) (heq.symm ▸ Kd.FK_raw hx.fk) (fun _ hk => hk.elim)
  have e : (i : Int).toNat * (Kd.raw kTy.sz).sz + 0 = i * 5 := by rw [Int.toNat_natCast]; rfl
  rw [e] at h2
  have h3 := Kd.N_written (x' := x) hown hl hf h2.1 h2.2 hx.fk hokp
  rw [Int.toNat_natCast] at h3
  exact ⟨h3, h2.2⟩
/-- An element's cells in an own row. -/
theorem tslot {W : World} {base g n cap : Nat} {ok : Nat → Prop} {l : List Ty} (h : Kd.N kTy 26 W base ok (.slice (some ⟨g, 0, none⟩) n cap) l) (i : Nat) (hi : i < n) : ∃ a0 a1 a2 a3 a4, (W.cell? ⟨g, i * 5, none⟩ = some a0 ∧ W.cell? ⟨g, i * 5 + 1, none⟩ = some a1 ∧ W.cell? ⟨g, i * 5 + 2, none⟩ = some a2 ∧ W.cell? ⟨g, i * 5 + 3, none⟩ = some a3 ∧ W.cell? ⟨g, i * 5 + 4, none⟩ = some a4) ∧
    (W.frozen? ⟨g, i * 5, none⟩ = false ∧ W.frozen? ⟨g, i * 5 + 1, none⟩ = false ∧ W.frozen? ⟨g, i * 5 + 2, none⟩ = false ∧ W.frozen? ⟨g, i * 5 + 3, none⟩ = false ∧ W.frozen? ⟨g, i * 5 + 4, none⟩ = false) := by
  obtain ⟨c, hcl, _, hcc, hfr⟩ := Kd.N_elem h z26 (i : Int) (by omega) (by omega)
  have hl : c.length = 5 := hcl
  match c, hl with
  | [a0, a1, a2, a3, a4], _ =>
    have hc : ∀ j u, [a0, a1, a2, a3, a4][j]? = some u → W.cell? ⟨g, i * 5 + j, none⟩ = some u := hcc
    have hf : ∀ j, W.frozen? ⟨g, i * 5 + j, none⟩ = false := hfr
    exact ⟨a0, a1, a2, a3, a4, ⟨hc 0 _ rfl, hc 1 _ rfl, hc 2 _ rfl, hc 3 _ rfl, hc 4 _ rfl⟩, hf 0, hf 1, hf 2, hf 3, hf 4⟩
theorem setCells5 (w : World) (g o : Nat) (v0 v1 v2 v3 v4 : Value) : w.setCells g o [v0, v1, v2, v3, v4] = (((((w.setCell ⟨g, o, none⟩ v0).setCell ⟨g, o + 1, none⟩ v1).setCell ⟨g, o + 2, none⟩ v2).setCell ⟨g, o + 3, none⟩ v3).setCell ⟨g, o + 4, none⟩ v4) := by
  first | rfl | simp [World.setCells]
theorem Kq.of_grown {w w' : World} {row : Option Nat} (h : w.grownBy w' row) : Kq (fun k => some k = row) w w' := ⟨h.os, h.tape, h.output, h.size, fun i hi hn => h.block i hi hn⟩
def AllJ (Base : Nat → Prop) (go : Nat) (st : List (Ty × Int)) (j : Nat) (O : Nat → Prop) (w : World) : Prop :=
  (∃ v, w.heap[go]? = some (.cells #[v] 24 (0, 0)) ∧ Kd.N kTy 26 w (go + 1) (fun k => Base k ∨ (O k ∧ k ≠ go)) v ((st.take j).map Prod.fst)) ∧ O go ∧ (∀ b, O b → go ≤ b ∧ b < w.heap.size)
def allLb (go : Nat) : Array Value := #[.pointer (some ⟨go, 0, none⟩)]
set_option maxHeartbeats 4000000 in
set_option maxRecDepth 100000 in
theorem all1_c {st : List (Ty × Int)} {Base : Nat → Prop} {go : Nat} (hB : ∀ b, Base b → b < go) (hst : st.length ≤ 1000000000000) :
    TurnC 53 (allLb go) idF st Base (AllJ Base go st) where
  enters := enters_of Try.func53 (by kernel_rfl) rfl
  own := fun j O w h b hb => by
    obtain ⟨_, _, h3⟩ := h
    exact ⟨(h3 b hb).2, fun hbb => by have := hB b hbb; have := (h3 b hb).1; omega⟩
  keep := fun j O w w' h hq => by
    obtain ⟨⟨v, h1, h2⟩, hgo, h3⟩ := h
    refine ⟨⟨v, hq.blk h1 (fun h => h (.inr hgo)), Kd.N_step h2 (fun k hk hl => hq.block k hl (fun h => h (by rcases hk with hk | hk; exact .inl hk; exact .inr hk.1)))⟩, hgo, fun b hb => ⟨(h3 b hb).1, Nat.lt_of_lt_of_le (h3 b hb).2 hq.size⟩⟩
  call := fun j hj O w A3 c3 A4 c4 h hf => by
    obtain ⟨⟨v, h1, h2⟩, hgo, h3⟩ := h
    have hx : (st.take (j + 1)).map Prod.fst = (st.take j).map Prod.fst ++ [(st[j]).1] := by rw [List.take_add_one, List.getElem?_eq_getElem hj, List.map_append]; rfl
    have hxl : ((st.take j).map Prod.fst).length ≤ 1000000000000 := by rw [List.length_map, List.length_take]; omega
    obtain ⟨xs, hxs⟩ : ∃ xs, (st.take j).map Prod.fst = xs := ⟨_, rfl⟩
    rw [hxs] at hx h2 hxl
    obtain ⟨s, hs⟩ : ∃ s, (st[j]).1 = s := ⟨_, rfl⟩
    obtain ⟨nd, hnd⟩ : ∃ nd, (st[j]).2 = nd := ⟨_, rfl⟩
    rw [hs] at hf hx ⊢
    rw [hnd]
    obtain ⟨A, c, rfl⟩ := Kd.N_slice h2
    obtain ⟨kT, kR, b0, z0⟩ := twoA w (tarr s A3 c3 A4 c4) ztarr 26 26
    have l1 := blk_lt h1
    have k1 := blk_below h1 b0
    have hbs : ∀ k, (Value.slice A xs.length c).ownBlock = some k → go + 1 ≤ k := Kd.N_base h2
    have hlt0 := Kd.N_lt h2
    have HX := Aside0.mk hx
    have HO := Aside0.mk h3
    have HB := Aside0.mk hB
    have HN := Aside0.mk h2
    have HFT := Aside0.mk hf
    have HK := Aside0.mk (And.intro kT (And.intro kR k1))
    have HB0 := Aside0.mk b0
    have HLT := Aside0.mk (And.intro hbs hlt0)
    have HXL := Aside0.mk hxl
    obtain ⟨j1, j1', j1l⟩ := one k1
    obtain ⟨⟨t0, t1, t2, t3, t4⟩, ⟨u0, u1, u2, u3, u4⟩, lt⟩ := five kT
    clear h1 h2 h3 hf hx hxl hB hj hst hxs hs hnd hbs hlt0 b0 kT kR k1
    show Calls Try.prog 53 #[tv s A3 c3 A4 c4, .int .i64 nd, .pointer (some ⟨go, 0, none⟩)] w _
    go_enter Try.func53, Try.ntmps53
    go_wp2
    generalize hW2 : (w.alloc _).alloc _ = W2 at HK HB0 z0 j1 j1' j1l t0 t1 t2 t3 t4 u0 u1 u2 u3 u4 lt ⊢
    clear hW2 j1' j1l u0 u1 u2 u3 u4 lt
    have ngo : ¬ (some go = (Value.slice A xs.length c).ownBlock) := fun h => by have := HLT.out.1 go h.symm; omega
    have nT : ¬ (some w.heap.size = (Value.slice A xs.length c).ownBlock) := fun h => by have := HLT.out.2 _ h.symm; omega
    have nR : ¬ (some (w.heap.size + 1) = (Value.slice A xs.length c).ownBlock) := fun h => by have := HLT.out.2 _ h.symm; omega
    refine start_ (ds := [6, 7]) (S := (fun w' => Kq (fun k => some k = (Value.slice A xs.length c).ownBlock) W2 w' ∧ w'.cell? ⟨go, 0, none⟩ = some (.slice A xs.length c) ∧ w'.cell? ⟨w.heap.size, 0, none⟩ = some (.int .i64 s.f0) ∧ w'.cell? ⟨w.heap.size, 1, none⟩ = some (.int .i64 s.f1) ∧ w'.cell? ⟨w.heap.size, 2, none⟩ = some (.string s.f2) ∧ w'.cell? ⟨w.heap.size, 3, none⟩ = some (.slice A3 s.f3.length c3) ∧ w'.cell? ⟨w.heap.size, 4, none⟩ = some (.slice A4 s.f4.length c4))) #[false, false, false, false, false, false, false, false] (by kernel_rfl) rfl rfl ?_ (fun hHeld => ?_)
    · exact (and_of' (fun hK_ => ⟨hK_.cell j1 ngo, hK_.cell t0 nT, hK_.cell t1 nT, hK_.cell t2 nT, hK_.cell t3 nT, hK_.cell t4 nT⟩) (Kq.of_below (Below.refl _ _).drew))
    (refine take_ (i := 0) (N := (some 6)) (v := ?_) #[true, false, false, false, false, false, false, false] rfl rfl (by kernel_rfl) (fun _ _ _ h => h) (Or.inl ⟨by rfl, ?_⟩) hHeld rfl ?_; rotate_left 1; focus ((intro w hSw; (try dsimp only at hSw); first | (go_simp; done) | (go_simp; with_reducible rfl)); done); (try simp only [Act.put, List.setIfInBounds_toArray, List.set_cons_zero, List.set_cons_succ]))
    (refine take_ (i := 1) (N := (some 7)) (v := ?_) #[true, true, false, false, false, false, false, false] rfl rfl (by kernel_rfl) (fun _ _ _ h => h) (Or.inl ⟨by rfl, ?_⟩) hHeld rfl ?_; rotate_left 1; focus ((intro w hSw; (try dsimp only at hSw); first | (go_simp; done) | (go_simp; with_reducible rfl)); done); (try simp only [Act.put, List.setIfInBounds_toArray, List.set_cons_zero, List.set_cons_succ]))
    (refine take_ (i := 2) (N := (some 8)) (v := ?_) #[true, true, true, false, false, false, false, false] rfl rfl (by kernel_rfl) (fun _ _ _ h => h) (Or.inl ⟨by rfl, ?_⟩) hHeld rfl ?_; rotate_left 1; focus ((intro w hSw; (try dsimp only at hSw); first | (go_simp; done) | (go_simp; with_reducible rfl)); done); (try simp only [Act.put, List.setIfInBounds_toArray, List.set_cons_zero, List.set_cons_succ]))
    (refine one_ (i := 3) (N := (some 9)) #[true, true, true, true, false, false, false, false] rfl rfl (by kernel_rfl) (by decide) (fun K hK => ?_); go_simp; have hb := below_alloc1 W2.drew (.cells ztarr 26); (try go_wp2_with fail); refine hK.out _ _ (and_of' (fun hK_ => ⟨hK_.cell j1 ngo, hK_.cell t0 nT, hK_.cell t1 nT, hK_.cell t2 nT, hK_.cell t3 nT, hK_.cell t4 nT⟩) ((And.left hHeld).trans (Kq.of_below hb))) ?_; clear hHeld hK K hb; intro hHeld; (try simp only [Act.put, List.setIfInBounds_toArray, List.set_cons_zero, List.set_cons_succ]))
    have HN2 : Kd.N kTy 26 W2.drew (go + 1) (fun k => Base k ∨ (O k ∧ k ≠ go) ∨ w.heap.size + 1 + 1 ≤ k) (Value.slice A xs.length c) xs := Kd.N_drew (Kd.N_mono (Kd.N_below HN.out HB0.out) (fun k hk => by rcases hk with hk | hk; exact .inl hk; exact .inr (.inl hk)))
    have hz2 : W2.drew.heap.size = w.heap.size + 1 + 1 := by rw [World.size_drew, z0]
    have hzT : FT W2.drew (fun _ => False) zT none 0 none 0 := ⟨Nat.le_refl _, Kd.F_nil _ _ _, Nat.le_refl _, Kd.F_nil _ _ _⟩
    refine one_ (i := 4) (N := (some 10)) #[true, true, true, true, true, false, false, false] rfl rfl (by kernel_rfl) (by decide) (fun K hK => ?_)
    refine Kd.N_append_step kTy (w0 := W2.drew) (go + 1) (by rfl) (.tmp 6) (.tmp 9) 24 26 (.agg #[(.int .i64 0), (.int .i64 0), (.string ⟨#[]⟩), (.slice none 0 0), (.slice none 0 0)]) 80 rfl Try.underlying24 info26 rfl (by decide) (by omega) (.slice A xs.length c) xs zT (tcells zT none 0 none 0) (fun k => Base k ∨ (O k ∧ k ≠ go) ∨ w.heap.size + 1 + 1 ≤ k) (fun _ => False) rfl (by show Value.slice (some ⟨w.heap.size + 1 + 1, 0, none⟩) 1 1 = _; rw [World.size_drew, z0]) hzT.fk (fun k hk => hk.elim) (fun k hk => .inr (.inr (by omega))) HN2 (Below.refl _ _) (by omega) (by have := HXL.out; omega) ?_
    intro v1 w1 hN1 hB1 hg1 hat1
    have hq1 := (Kq.of_below (S := fun k => some k = (Value.slice A xs.length c).ownBlock) (Below.refl _ W2).drew).trans (Kq.of_grown hg1)
    refine hK.out _ _ (and_of' (fun hK_ => ⟨hK_.cell j1 ngo, hK_.cell t0 nT, hK_.cell t1 nT, hK_.cell t2 nT, hK_.cell t3 nT, hK_.cell t4 nT⟩) (hq1)) ?_
    clear hHeld hK K
    intro hHeld
    (try simp only [Act.put, List.setIfInBounds_toArray, List.set_cons_zero, List.set_cons_succ])
    obtain ⟨g1, cap, hv1, hgl, hlt1, -⟩ := Kd.N_form hN1 (by simp)
    have hxl2 : (xs ++ [zT]).length = xs.length + 1 := by simp
    rw [hxl2] at hv1
    subst hv1
    obtain ⟨a0, a1, a2, a3, a4, ⟨x0, x1, x2, x3, x4⟩, ⟨y0, y1, y2, y3, y4⟩⟩ := tslot hN1 xs.length (by omega)
    have kG1 := hq1.blk HK.out.2.2 ngo
    have kT1 := hq1.blk HK.out.1 nT
    have kR1 := hq1.blk HK.out.2.1 nR
    obtain ⟨m1, m1', m1l⟩ := one kG1
    have ng : go ≠ g1 := by omega
    have ng' : g1 ≠ go := by omega
    have i0 : (0 : Int) ≤ (xs.length : Int) := by omega
    have i1 : (xs.length : Int) < ((xs.length + 1 : Nat) : Int) := by omega
    have nT1 : w.heap.size ≠ g1 := fun h => by rcases hat1 with h1 | ⟨b, h1, h2⟩; exact nT (by rw [← h1, h]; simp [Value.ownBlock]); simp [Value.ownBlock] at h1; omega
    have nR1 : w.heap.size + 1 ≠ g1 := fun h => by rcases hat1 with h1 | ⟨b, h1, h2⟩; exact nR (by rw [← h1, h]; simp [Value.ownBlock]); simp [Value.ownBlock] at h1; omega
    have hBO : ∀ k, Base k → ¬ (some k = (Value.slice A xs.length c).ownBlock) := fun k hk h => by have := HLT.out.1 k h.symm; have := HB.out k hk; omega
    have hft := (HFT.out.below HB0.out).kq hq1 hBO
    have hBg : ∀ k, Base k → k ≠ g1 := fun k hk => by have := HB.out k hk; omega
    have hOKgo : ∀ k, (Base k ∨ (O k ∧ k ≠ go) ∨ w.heap.size + 1 + 1 ≤ k) → k ≠ go := fun k hk => by rcases hk with hk | hk | hk; (have := HB.out k hk; omega); exact hk.2; omega
    have ep : ∀ k, Base k → (Base k ∨ (O k ∧ k ≠ go) ∨ w.heap.size + 1 + 1 ≤ k) ∧ k ≠ g1 := fun k hk => ⟨.inl hk, hBg k hk⟩
    have el : (xs ++ [zT]).set xs.length s = xs ++ [s] := by rw [List.set_append_right _ _ (Nat.le_refl _), Nat.sub_self]; rfl
    have hn1 := Aside0.mk (tput_c hN1 (i := xs.length) (by omega) hft ep).1
    have hn2 := Aside0.mk (tput_c (Kd.N_far hN1 (p := ⟨go, 0, none⟩) (fun k hk => hOKgo k hk) (.slice (some ⟨g1, 0, none⟩) (xs.length + 1) cap)) (i := xs.length) (by omega) (hft.far (p := ⟨go, 0, none⟩) (fun k hk => hOKgo k (.inl hk)) (.slice (some ⟨g1, 0, none⟩) (xs.length + 1) cap)) ep).1
    have hown : ∀ k, (Value.slice A xs.length c).ownBlock = some k → O k := fun k hk => by rcases HN.out.1 k hk with h | h; (have := HB.out k h; have := HLT.out.1 k hk; omega); exact h.1
    have hg1O : g1 < w.heap.size → O g1 := fun h => by rcases hat1 with h1 | ⟨b, h1, h2⟩; exact hown g1 (by rw [← h1]; simp [Value.ownBlock]); simp [Value.ownBlock] at h1; omega
    have HOG := Aside0.mk (And.intro hown hg1O)
    have HOKG := Aside0.mk hOKgo
    have hQ1 := Aside0.mk hq1
    have HKT := Aside0.mk (And.intro kT1 (And.intro kR1 kG1))
    clear hN1 hB1 hg1 hft HN2 hzT hq1 hHeld kG1 kT1 kR1 ep hat1 hown hg1O hOKgo
    (refine pure_ (i := 5) (N := (some 11)) (v := .pointer (some ⟨g1, xs.length * 5, none⟩)) #[true, true, true, true, true, true, false, false] rfl rfl (by kernel_rfl) (fun _ _ _ h => h) (Or.inl ⟨by rfl, ?_⟩) rfl ?_; focus ((intro w; first | (go_simp; done) | (go_simp; with_reducible rfl) | (go_simp; intro hh; omega)); done); (try simp only [Act.put, List.setIfInBounds_toArray, List.set_cons_zero, List.set_cons_succ]))
    refine wpAnyLast_ready (rs := [6, 7]) (by kernel_rfl) (by simp) ?_
    refine AllReadyL.cons_last (o := _) rfl (by decide) (fun K hK => ?_) (AllReadyL.cons_last (o := _) rfl (by decide) (fun K hK => ?_) AllReadyL.nil)
    · go_simp
      (try go_wp2_with fail)
      refine hK.out _ _ ?_
      clear hK K
      (try simp only [Act.put, List.setIfInBounds_toArray, List.set_cons_zero, List.set_cons_succ])
      refine last_ (i := 7) (N := none) #[true, true, true, true, true, true, true, true] rfl rfl (by kernel_rfl) (by decide) (fun K hK => ?_)
      go_simp
      (try go_wp2_with fail)
      refine hK.out _ _ ?_
      clear hK K
      (try simp only [Act.put, List.setIfInBounds_toArray, List.set_cons_zero, List.set_cons_succ])
      refine done_ (by kernel_rfl) ?_
      obtain ⟨kT1, kR1, kG1⟩ := HKT.out
      have kT3 := (blk_far (p := ⟨go, 0, none⟩) ((blk_far (p := ⟨g1, xs.length * 5 + 4, none⟩) (blk_far (p := ⟨g1, xs.length * 5 + 3, none⟩) (blk_far (p := ⟨g1, xs.length * 5 + 2, none⟩) (blk_far (p := ⟨g1, xs.length * 5 + 1, none⟩) (blk_far (p := ⟨g1, xs.length * 5, none⟩) (kT1) (by assumption) (.int .i64 s.f0)) (by assumption) (.int .i64 s.f1)) (by assumption) (.string s.f2)) (by assumption) (.slice A3 s.f3.length c3)) (by assumption) (.slice A4 s.f4.length c4))) (by dsimp only; omega) (.slice (some ⟨g1, 0, none⟩) (xs.length + 1) cap))
      have kR3 := (blk_far (p := ⟨go, 0, none⟩) ((blk_far (p := ⟨g1, xs.length * 5 + 4, none⟩) (blk_far (p := ⟨g1, xs.length * 5 + 3, none⟩) (blk_far (p := ⟨g1, xs.length * 5 + 2, none⟩) (blk_far (p := ⟨g1, xs.length * 5 + 1, none⟩) (blk_far (p := ⟨g1, xs.length * 5, none⟩) (kR1) (by assumption) (.int .i64 s.f0)) (by assumption) (.int .i64 s.f1)) (by assumption) (.string s.f2)) (by assumption) (.slice A3 s.f3.length c3)) (by assumption) (.slice A4 s.f4.length c4))) (by dsimp only; omega) (.slice (some ⟨g1, 0, none⟩) (xs.length + 1) cap))
      have kG3 := blk_set (blk_far (p := ⟨g1, xs.length * 5 + 4, none⟩) (blk_far (p := ⟨g1, xs.length * 5 + 3, none⟩) (blk_far (p := ⟨g1, xs.length * 5 + 2, none⟩) (blk_far (p := ⟨g1, xs.length * 5 + 1, none⟩) (blk_far (p := ⟨g1, xs.length * 5, none⟩) (kG1) (by assumption) (.int .i64 s.f0)) (by assumption) (.int .i64 s.f1)) (by assumption) (.string s.f2)) (by assumption) (.slice A3 s.f3.length c3)) (by assumption) (.slice A4 s.f4.length c4)) 0 (.slice (some ⟨g1, 0, none⟩) (xs.length + 1) cap)
      have hN4 := hn1.out
      rw [setCells5] at hN4
      have hN3 := Kd.N_far hN4 (p := ⟨go, 0, none⟩) (fun k hk => HOKG.out k hk) (.slice (some ⟨g1, 0, none⟩) (xs.length + 1) cap)
      have hq3 : Kq (fun k => k = go ∨ k = g1) w1 ((((((w1.setCell ⟨g1, xs.length * 5, none⟩ (.int .i64 s.f0)).setCell ⟨g1, xs.length * 5 + 1, none⟩ (.int .i64 s.f1)).setCell ⟨g1, xs.length * 5 + 2, none⟩ (.string s.f2)).setCell ⟨g1, xs.length * 5 + 3, none⟩ (.slice A3 s.f3.length c3)).setCell ⟨g1, xs.length * 5 + 4, none⟩ (.slice A4 s.f4.length c4)).setCell ⟨go, 0, none⟩ (.slice (some ⟨g1, 0, none⟩) (xs.length + 1) cap)) := (Kq.setrow5 (Kq.refl _ w1) (.inl (.inr rfl)) (.int .i64 s.f0) (.int .i64 s.f1) (.string s.f2) (.slice A3 s.f3.length c3) (.slice A4 s.f4.length c4)).set (p := ⟨go, 0, none⟩) (.inl (.inl rfl)) (.slice (some ⟨g1, 0, none⟩) (xs.length + 1) cap)
      rw [el] at hN3
      simp only [List.setIfInBounds_toArray, List.set_cons_zero] at kG3
      clear x0 x1 x2 x3 x4 y0 y1 y2 y3 y4 m1 m1' m1l hn1 hn2 kT1 kR1 kG1 j1 t0 t1 t2 t3 t4 i0 i1
      generalize ((((((w1.setCell ⟨g1, xs.length * 5, none⟩ (.int .i64 s.f0)).setCell ⟨g1, xs.length * 5 + 1, none⟩ (.int .i64 s.f1)).setCell ⟨g1, xs.length * 5 + 2, none⟩ (.string s.f2)).setCell ⟨g1, xs.length * 5 + 3, none⟩ (.slice A3 s.f3.length c3)).setCell ⟨g1, xs.length * 5 + 4, none⟩ (.slice A4 s.f4.length c4)).setCell ⟨go, 0, none⟩ (.slice (some ⟨g1, 0, none⟩) (xs.length + 1) cap)) = X at kT3 kR3 kG3 hN3 hq3 ⊢
      go_wp2_with (first
        | (refine wpList_load_row rfl 26 (.tmp 3) rfl w.heap.size rfl _ _ (0, 0) _ kT3 Try.underlying26 rfl (by kernel_rfl) ?_)
        | (refine wpList_store_row rfl 26 (.tmp 5) (.tmp 12) rfl (w.heap.size + 1) (tarr s A3 c3 A4 c4) rfl rfl _ _ kR3 (by kernel_rfl) rfl (by simp [Value.oneCell']) ?_)
        | fail)
      (try simp only [Exit.inBlock, Exit.then])
      refine bodyPost_ret (results_cell_row rfl _ _ _ 26 _ (0, 0) _ rfl (setRow_heap X (w.heap.size + 1) _ _ _ _ kR3) Try.underlying26 rfl (by kernel_rfl)) rfl ?_
      have hS : Kq (fun b => b = w.heap.size + 1) X (X.setRow (w.heap.size + 1) (tarr s A3 c3 A4 c4)) := Kq.setRow _ _
      generalize World.setRow _ _ _ = X1 at hS ⊢
      have hqf : Kq O w X1 := (((Kq.of_below (S := O) HB0.out).then hQ1.out (fun i hi h => HOG.out.1 i h.symm)).then hq3 (fun i hi h => by rcases h with rfl | rfl; exact hgo; exact HOG.out.2 hi)).then hS (fun i hi h => by omega)
      have sX : w.heap.size + 1 + 1 ≤ X1.heap.size := by have h1 := hQ1.out.size; have h2 := hq3.size; have h3 := hS.size; omega
      have hN5 := Kd.N_bound (Kd.N_step hN3 (fun k hk hl => hS.block k hl (fun he => by rcases hk with hk | hk | hk; (have := HB.out k hk; omega); (have := (HO.out k hk.1).2; omega); omega)))
      refine ⟨A3, c3, A4, c4, (fun b => O b ∨ (w.heap.size ≤ b ∧ b < X1.heap.size)), rfl, HFT.out.kq hqf (fun b hb ho => by have := HB.out b hb; have := (HO.out b ho).1; omega), ⟨⟨.slice (some ⟨g1, 0, none⟩) (xs.length + 1) cap, hS.blk kG3 (by omega), ?_⟩, .inl hgo, fun b hb => ?_⟩, fun b hb => ?_, hqf⟩
      · rw [HX.out]
        exact Kd.N_mono hN5 (fun k hk => by rcases hk with ⟨hk | hk | hk, hl⟩; exact .inl hk; exact .inr ⟨.inl hk.1, hk.2⟩; exact .inr ⟨.inr ⟨by omega, hl⟩, by omega⟩)
      · rcases hb with hb | hb; (have := HO.out b hb; omega); omega
      · rcases hb with hb | hb; exact .inl hb; exact .inr hb.1
    · go_simp
      (try go_wp2_with fail)
      refine hK.out _ _ ?_
      clear hK K
      (try simp only [Act.put, List.setIfInBounds_toArray, List.set_cons_zero, List.set_cons_succ])
      refine last_ (i := 6) (N := none) #[true, true, true, true, true, true, true, true] rfl rfl (by kernel_rfl) (by decide) (fun K hK => ?_)
      go_simp
      (try go_wp2_with fail)
      refine hK.out _ _ ?_
      clear hK K
      (try simp only [Act.put, List.setIfInBounds_toArray, List.set_cons_zero, List.set_cons_succ])
      refine done_ (by kernel_rfl) ?_
      obtain ⟨kT1, kR1, kG1⟩ := HKT.out
      have kT3 := (blk_far (p := ⟨g1, xs.length * 5 + 4, none⟩) (blk_far (p := ⟨g1, xs.length * 5 + 3, none⟩) (blk_far (p := ⟨g1, xs.length * 5 + 2, none⟩) (blk_far (p := ⟨g1, xs.length * 5 + 1, none⟩) (blk_far (p := ⟨g1, xs.length * 5, none⟩) ((blk_far (p := ⟨go, 0, none⟩) (kT1) (by dsimp only; omega) (.slice (some ⟨g1, 0, none⟩) (xs.length + 1) cap))) (by assumption) (.int .i64 s.f0)) (by assumption) (.int .i64 s.f1)) (by assumption) (.string s.f2)) (by assumption) (.slice A3 s.f3.length c3)) (by assumption) (.slice A4 s.f4.length c4))
      have kR3 := (blk_far (p := ⟨g1, xs.length * 5 + 4, none⟩) (blk_far (p := ⟨g1, xs.length * 5 + 3, none⟩) (blk_far (p := ⟨g1, xs.length * 5 + 2, none⟩) (blk_far (p := ⟨g1, xs.length * 5 + 1, none⟩) (blk_far (p := ⟨g1, xs.length * 5, none⟩) ((blk_far (p := ⟨go, 0, none⟩) (kR1) (by dsimp only; omega) (.slice (some ⟨g1, 0, none⟩) (xs.length + 1) cap))) (by assumption) (.int .i64 s.f0)) (by assumption) (.int .i64 s.f1)) (by assumption) (.string s.f2)) (by assumption) (.slice A3 s.f3.length c3)) (by assumption) (.slice A4 s.f4.length c4))
      have kG3 := (blk_far (p := ⟨g1, xs.length * 5 + 4, none⟩) (blk_far (p := ⟨g1, xs.length * 5 + 3, none⟩) (blk_far (p := ⟨g1, xs.length * 5 + 2, none⟩) (blk_far (p := ⟨g1, xs.length * 5 + 1, none⟩) (blk_far (p := ⟨g1, xs.length * 5, none⟩) (blk_set kG1 0 (.slice (some ⟨g1, 0, none⟩) (xs.length + 1) cap)) (by assumption) (.int .i64 s.f0)) (by assumption) (.int .i64 s.f1)) (by assumption) (.string s.f2)) (by assumption) (.slice A3 s.f3.length c3)) (by assumption) (.slice A4 s.f4.length c4))
      have hN3 := hn2.out
      rw [setCells5] at hN3
      have hq3 : Kq (fun k => k = go ∨ k = g1) w1 ((((((w1.setCell ⟨go, 0, none⟩ (.slice (some ⟨g1, 0, none⟩) (xs.length + 1) cap)).setCell ⟨g1, xs.length * 5, none⟩ (.int .i64 s.f0)).setCell ⟨g1, xs.length * 5 + 1, none⟩ (.int .i64 s.f1)).setCell ⟨g1, xs.length * 5 + 2, none⟩ (.string s.f2)).setCell ⟨g1, xs.length * 5 + 3, none⟩ (.slice A3 s.f3.length c3)).setCell ⟨g1, xs.length * 5 + 4, none⟩ (.slice A4 s.f4.length c4)) := Kq.setrow5 ((Kq.refl _ w1).set (p := ⟨go, 0, none⟩) (.inl (.inl rfl)) (.slice (some ⟨g1, 0, none⟩) (xs.length + 1) cap)) (.inl (.inr rfl)) (.int .i64 s.f0) (.int .i64 s.f1) (.string s.f2) (.slice A3 s.f3.length c3) (.slice A4 s.f4.length c4)
      rw [el] at hN3
      simp only [List.setIfInBounds_toArray, List.set_cons_zero] at kG3
      clear x0 x1 x2 x3 x4 y0 y1 y2 y3 y4 m1 m1' m1l hn1 hn2 kT1 kR1 kG1 j1 t0 t1 t2 t3 t4 i0 i1
      generalize ((((((w1.setCell ⟨go, 0, none⟩ (.slice (some ⟨g1, 0, none⟩) (xs.length + 1) cap)).setCell ⟨g1, xs.length * 5, none⟩ (.int .i64 s.f0)).setCell ⟨g1, xs.length * 5 + 1, none⟩ (.int .i64 s.f1)).setCell ⟨g1, xs.length * 5 + 2, none⟩ (.string s.f2)).setCell ⟨g1, xs.length * 5 + 3, none⟩ (.slice A3 s.f3.length c3)).setCell ⟨g1, xs.length * 5 + 4, none⟩ (.slice A4 s.f4.length c4)) = X at kT3 kR3 kG3 hN3 hq3 ⊢
      go_wp2_with (first
        | (refine wpList_load_row rfl 26 (.tmp 3) rfl w.heap.size rfl _ _ (0, 0) _ kT3 Try.underlying26 rfl (by kernel_rfl) ?_)
        | (refine wpList_store_row rfl 26 (.tmp 5) (.tmp 12) rfl (w.heap.size + 1) (tarr s A3 c3 A4 c4) rfl rfl _ _ kR3 (by kernel_rfl) rfl (by simp [Value.oneCell']) ?_)
        | fail)
      (try simp only [Exit.inBlock, Exit.then])
      refine bodyPost_ret (results_cell_row rfl _ _ _ 26 _ (0, 0) _ rfl (setRow_heap X (w.heap.size + 1) _ _ _ _ kR3) Try.underlying26 rfl (by kernel_rfl)) rfl ?_
      have hS : Kq (fun b => b = w.heap.size + 1) X (X.setRow (w.heap.size + 1) (tarr s A3 c3 A4 c4)) := Kq.setRow _ _
      generalize World.setRow _ _ _ = X1 at hS ⊢
      have hqf : Kq O w X1 := (((Kq.of_below (S := O) HB0.out).then hQ1.out (fun i hi h => HOG.out.1 i h.symm)).then hq3 (fun i hi h => by rcases h with rfl | rfl; exact hgo; exact HOG.out.2 hi)).then hS (fun i hi h => by omega)
      have sX : w.heap.size + 1 + 1 ≤ X1.heap.size := by have h1 := hQ1.out.size; have h2 := hq3.size; have h3 := hS.size; omega
      have hN5 := Kd.N_bound (Kd.N_step hN3 (fun k hk hl => hS.block k hl (fun he => by rcases hk with hk | hk | hk; (have := HB.out k hk; omega); (have := (HO.out k hk.1).2; omega); omega)))
      refine ⟨A3, c3, A4, c4, (fun b => O b ∨ (w.heap.size ≤ b ∧ b < X1.heap.size)), rfl, HFT.out.kq hqf (fun b hb ho => by have := HB.out b hb; have := (HO.out b ho).1; omega), ⟨⟨.slice (some ⟨g1, 0, none⟩) (xs.length + 1) cap, hS.blk kG3 (by omega), ?_⟩, .inl hgo, fun b hb => ?_⟩, fun b hb => ?_, hqf⟩
      · rw [HX.out]
        exact Kd.N_mono hN5 (fun k hk => by rcases hk with ⟨hk | hk | hk, hl⟩; exact .inl hk; exact .inr ⟨.inl hk.1, hk.2⟩; exact .inr ⟨.inr ⟨by omega, hl⟩, by omega⟩)
      · rcases hb with hb | hb; (have := HO.out b hb; omega); omega
      · rcases hb with hb | hb; exact .inl hb; exact .inr hb.1
end Go.Proofs.Ytlenfmnkbepoiaa.PSitesTell
namespace Go.Proofs.Ytlenfmnkbepoiaa.PSitesTell
open Go.RowKit Go.Proofs.YtlenfmnkbepoiaaW.Mine Go.Proofs.YtlenfmnkbepoiaaW.PrintWords Go.Proofs.YtlenfmnkbepoiaaW.PrintLast Go.Proofs.YtlenfmnkbepoiaaW.PrintMore
attribute [local go_sem] max2_int min2_int max_two min_two max_three min_three max_four min_four
set_option linter.unusedVariables false
set_option linter.unusedSimpArgs false
theorem sitesD_len (d : De) : (sitesD d).length = d.f0.f1.length + d.f0.f2.length + 1 + numE d.f1 := by
  unfold sitesD
  rw [List.length_append, List.length_append, List.length_append, List.length_map, List.length_map, sitesE_len]
  rfl
theorem At.self (st : List (Ty × Int)) : At st 0 st := fun j v h => by rw [Nat.zero_add]; exact h
/-- What all sites are. -/
def allD (d : De) : List Ty := (sitesD d).map Prod.fst
abbrev DOK (d : De) : Prop := d.f0.f1.length * 96 ≤ 140737488351232 ∧ d.f0.f2.length * 96 ≤ 140737488351232 ∧ So d.f1
def AlOut (Base : Nat → Prop) (l : List Ty) (w : World) (e : Ending) (w' : World) : Prop :=
  ∃ (A : Option Addr) (c : Nat), e = .returned (.slice A l.length c) ∧ l.length ≤ c ∧ Kd.F kTy w' (fun b => Base b ∨ w.heap.size ≤ b) A l.length l ∧ Below w.heap.size w w'
set_option maxHeartbeats 4000000 in
set_option maxRecDepth 100000 in
theorem all_c (d : De) (ho : DOK d) (hn : (sitesD d).length ≤ 1000000000000) {A1 A2 A3 A4 B4 B5 B6 : Option Addr} {c1 c2 c3 c4 d4 d5 d6 : Nat} {Base : Nat → Prop} {w : World} (hB : ∀ b, Base b → b < w.heap.size) (hf : FD w Base d A1 c1 A2 c2 A3 c3 A4 c4 B4 d4 B5 d5 B6 d6) :
    Calls Try.prog 22 #[dv d A1 c1 A2 c2 A3 c3 A4 c4 B4 d4 B5 d5 B6 d6] w (AlOut Base (allD d) w) := by
  obtain ⟨kD, kG, b0, z0⟩ := twoA w (dcells d A1 c1 A2 c2 A3 c3 A4 c4 B4 d4 B5 d5 B6 d6) #[.slice none 0 0] 33 24
  have hBg : ∀ b, Base b → b < w.heap.size + 1 := fun b hb => by have := hB b hb; omega
  have T := all1_c (Base := Base) (go := w.heap.size + 1) hBg hn
  have hJ : AllJ Base (w.heap.size + 1) (sitesD d) 0 (fun b => b = w.heap.size + 1) ((w.alloc (.cells (dcells d A1 c1 A2 c2 A3 c3 A4 c4 B4 d4 B5 d5 B6 d6) 33)).alloc (.cells #[.slice none 0 0] 24)) :=
    ⟨⟨_, kG, Kd.N_nil _ _ _ _ _⟩, rfl, fun b hb => by subst hb; exact ⟨Nat.le_refl _, by rw [z0]; omega⟩⟩
  have hc := over_c T d (At.self _) ho.1 ho.2.1 ho.2.2 (w := (w.alloc (.cells (dcells d A1 c1 A2 c2 A3 c3 A4 c4 B4 d4 B5 d5 B6 d6) 33)).alloc (.cells #[.slice none 0 0] 24)) (fun b hb => by have := hB b hb; omega) (hf.below b0) hJ
  rw [← sitesD_len] at hc
  have HC := Aside0.mk hc
  have hl : (sitesD d).length = (allD d).length := (by unfold allD; rw [List.length_map])
  have HL := Aside0.mk hl
  have HB := Aside0.mk hB
  have HB0 := Aside0.mk b0
  obtain ⟨q1, q1', q1l⟩ := one kG
  clear hc hJ hf b0 hBg hB hl
  go_enter Try.func22, Try.ntmps22
  go_wp2_with (first
    | (refine wpList_load_row rfl 33 (.tmp 1) rfl w.heap.size rfl _ _ (0, 0) _ kD Try.underlying33 rfl (by kernel_rfl) ?_)
    | fail)
  go_call (HC.out) as e w1 ⟨X1, y1, X2, y2, X3, y3, X4, y4, Z4, u4, Z5, u5, Z6, u6, O', Pr, he, -, -, hJ', -, hq⟩
  subst he
  obtain ⟨⟨v, kV, hN⟩, -, hO'⟩ := hJ'
  rw [List.take_of_length_le (Nat.le_refl _)] at hN
  obtain ⟨A, c, rfl⟩ := Kd.N_slice hN
  obtain ⟨p1, p1', p1l⟩ := one kV
  have hF := Kd.N_F hN
  have hr := Kd.N_reads' hN
  have HF := Aside0.mk hF
  have HR := Aside0.mk hr
  have HQ := Aside0.mk hq
  have HO' := Aside0.mk hO'
  clear hN hF hr hq hO' kD kG q1 q1' q1l
  go_wp2
  go_ret
  have hb : Below w.heap.size w w1 := HB0.out.trans (HQ.out.below (by rw [z0]; omega) (fun k hk h => by omega))
  refine ⟨A, c, by rw [← HL.out]; rfl, by rw [← HL.out]; exact (by have := HR.out.2.1; rwa [List.length_map] at this), ?_, hb⟩
  show Kd.F kTy w1 _ A ((sitesD d).map Prod.fst).length ((sitesD d).map Prod.fst)
  refine Kd.F_mono HF.out (fun k hk => ?_)
  rcases hk with hk | hk; exact .inl hk; exact .inr (by have := (HO'.out k hk.1).1; omega)
set_option maxHeartbeats 4000000 in
set_option maxRecDepth 100000 in
theorem count_c2 (d : De) (ho : DOK d) (hn : (sitesD d).length ≤ 1000000000000) {A1 A2 A3 A4 B4 B5 B6 : Option Addr} {c1 c2 c3 c4 d4 d5 d6 : Nat} {Base : Nat → Prop} {w : World} (hB : ∀ b, Base b → b < w.heap.size) (hf : FD w Base d A1 c1 A2 c2 A3 c3 A4 c4 B4 d4 B5 d5 B6 d6) :
    Calls Try.prog 19 #[dv d A1 c1 A2 c2 A3 c3 A4 c4 B4 d4 B5 d5 B6 d6] w fun e w' => e = .returned (.int .i64 ((sitesD d).length : Int)) ∧ Below w.heap.size w w' := by
  have kD := blk_new w (.cells (dcells d A1 c1 A2 c2 A3 c3 A4 c4 B4 d4 B5 d5 B6 d6) 33)
  have b0 := below_alloc1 w (.cells (dcells d A1 c1 A2 c2 A3 c3 A4 c4 B4 d4 B5 d5 B6 d6) 33)
  have hc := all_c d ho hn (w := w.alloc (.cells (dcells d A1 c1 A2 c2 A3 c3 A4 c4 B4 d4 B5 d5 B6 d6) 33)) (fun b hb => by have := hB b hb; have := b0.size; omega) (hf.below b0)
  have HC := Aside0.mk hc
  have hl : (sitesD d).length = (allD d).length := (by unfold allD; rw [List.length_map])
  have HL := Aside0.mk hl
  have HB0 := Aside0.mk b0
  clear hc hf b0 hB hl
  go_enter Try.func19, Try.ntmps19
  go_wp2_with (first
    | (refine wpList_load_row rfl 33 (.tmp 1) rfl w.heap.size rfl _ _ (0, 0) _ kD Try.underlying33 rfl (by kernel_rfl) ?_)
    | fail)
  go_call (HC.out) as e w1 ⟨A, c, he, hc, hF, hb⟩
  subst he
  have HBB := Aside0.mk hb
  clear hF hb kD
  go_wp2
  go_ret
  exact ⟨by rw [HL.out]; rfl, HB0.out.trans (HBB.out.mono (by have := HB0.out.size; omega))⟩
def atR (d : De) (kk : Int) : Ty × Int × Bool := if (atS (sitesD d) kk (sitesD d).length).2 < 0 then (zT, 0, false) else ((atS (sitesD d) kk (sitesD d).length).1, (atS (sitesD d) kk (sitesD d).length).2, true)
def AtOut (Base : Nat → Prop) (r : Ty × Int × Bool) (w : World) (e : Ending) (w' : World) : Prop :=
  ∃ (A3 : Option Addr) (c3 : Nat) (A4 : Option Addr) (c4 : Nat), e = .returned (.tuple #[tv r.1 A3 c3 A4 c4, .int .i64 r.2.1, .bool r.2.2]) ∧ FT w' Base r.1 A3 c3 A4 c4 ∧ Below w.heap.size w w'
theorem zT_ft (w : World) (ok : Nat → Prop) : FT w ok zT none 0 none 0 := ⟨Nat.le_refl _, Kd.F_nil _ _ _, Nat.le_refl _, Kd.F_nil _ _ _⟩
set_option maxHeartbeats 4000000 in
set_option maxRecDepth 100000 in
theorem at_c (d : De) (ho : DOK d) (kk : Int) {A1 A2 A3 A4 B4 B5 B6 : Option Addr} {c1 c2 c3 c4 d4 d5 d6 : Nat} {Base : Nat → Prop} {w : World} (hB : ∀ b, Base b → b < w.heap.size) (hf : FD w Base d A1 c1 A2 c2 A3 c3 A4 c4 B4 d4 B5 d5 B6 d6) :
    Calls Try.prog 13 #[dv d A1 c1 A2 c2 A3 c3 A4 c4 B4 d4 B5 d5 B6 d6, .int .i64 kk] w (AtOut Base (atR d kk) w) := by
  have s0_ : w.heap.size = w.heap.size := by rfl
  have k0 := blk_new w (.cells (dcells d A1 c1 A2 c2 A3 c3 A4 c4 B4 d4 B5 d5 B6 d6) 33)
  rw [s0_] at k0
  have s1_ : (w.alloc (.cells (dcells d A1 c1 A2 c2 A3 c3 A4 c4 B4 d4 B5 d5 B6 d6) 33)).heap.size = w.heap.size + 1 := by rw [World.size_alloc, s0_]
  have k1 := blk_new (w.alloc (.cells (dcells d A1 c1 A2 c2 A3 c3 A4 c4 B4 d4 B5 d5 B6 d6) 33)) (.cells #[.int .i64 kk] 3)
  rw [s1_] at k1
  replace k0 := blk_alloc k0 (.cells #[.int .i64 kk] 3)
  have s2_ : ((w.alloc (.cells (dcells d A1 c1 A2 c2 A3 c3 A4 c4 B4 d4 B5 d5 B6 d6) 33)).alloc (.cells #[.int .i64 kk] 3)).heap.size = w.heap.size + 1 + 1 := by rw [World.size_alloc, s1_]
  have k2 := blk_new ((w.alloc (.cells (dcells d A1 c1 A2 c2 A3 c3 A4 c4 B4 d4 B5 d5 B6 d6) 33)).alloc (.cells #[.int .i64 kk] 3)) (.cells ztarr 26)
  rw [s2_] at k2
  replace k0 := blk_alloc k0 (.cells ztarr 26)
  replace k1 := blk_alloc k1 (.cells ztarr 26)
  have s3_ : (((w.alloc (.cells (dcells d A1 c1 A2 c2 A3 c3 A4 c4 B4 d4 B5 d5 B6 d6) 33)).alloc (.cells #[.int .i64 kk] 3)).alloc (.cells ztarr 26)).heap.size = w.heap.size + 1 + 1 + 1 := by rw [World.size_alloc, s2_]
  have k3 := blk_new (((w.alloc (.cells (dcells d A1 c1 A2 c2 A3 c3 A4 c4 B4 d4 B5 d5 B6 d6) 33)).alloc (.cells #[.int .i64 kk] 3)).alloc (.cells ztarr 26)) (.cells ztarr 26)
  rw [s3_] at k3
  replace k0 := blk_alloc k0 (.cells ztarr 26)
  replace k1 := blk_alloc k1 (.cells ztarr 26)
  replace k2 := blk_alloc k2 (.cells ztarr 26)
  have s4_ : ((((w.alloc (.cells (dcells d A1 c1 A2 c2 A3 c3 A4 c4 B4 d4 B5 d5 B6 d6) 33)).alloc (.cells #[.int .i64 kk] 3)).alloc (.cells ztarr 26)).alloc (.cells ztarr 26)).heap.size = w.heap.size + 1 + 1 + 1 + 1 := by rw [World.size_alloc, s3_]
  have k4 := blk_new ((((w.alloc (.cells (dcells d A1 c1 A2 c2 A3 c3 A4 c4 B4 d4 B5 d5 B6 d6) 33)).alloc (.cells #[.int .i64 kk] 3)).alloc (.cells ztarr 26)).alloc (.cells ztarr 26)) (.cells #[.int .i64 0] 3)
  rw [s4_] at k4
  replace k0 := blk_alloc k0 (.cells #[.int .i64 0] 3)
  replace k1 := blk_alloc k1 (.cells #[.int .i64 0] 3)
  replace k2 := blk_alloc k2 (.cells #[.int .i64 0] 3)
  replace k3 := blk_alloc k3 (.cells #[.int .i64 0] 3)
  have s5_ : (((((w.alloc (.cells (dcells d A1 c1 A2 c2 A3 c3 A4 c4 B4 d4 B5 d5 B6 d6) 33)).alloc (.cells #[.int .i64 kk] 3)).alloc (.cells ztarr 26)).alloc (.cells ztarr 26)).alloc (.cells #[.int .i64 0] 3)).heap.size = w.heap.size + 1 + 1 + 1 + 1 + 1 := by rw [World.size_alloc, s4_]
  have k5 := blk_new (((((w.alloc (.cells (dcells d A1 c1 A2 c2 A3 c3 A4 c4 B4 d4 B5 d5 B6 d6) 33)).alloc (.cells #[.int .i64 kk] 3)).alloc (.cells ztarr 26)).alloc (.cells ztarr 26)).alloc (.cells #[.int .i64 0] 3)) (.cells #[.int .i64 (-1)] 3)
  rw [s5_] at k5
  replace k0 := blk_alloc k0 (.cells #[.int .i64 (-1)] 3)
  replace k1 := blk_alloc k1 (.cells #[.int .i64 (-1)] 3)
  replace k2 := blk_alloc k2 (.cells #[.int .i64 (-1)] 3)
  replace k3 := blk_alloc k3 (.cells #[.int .i64 (-1)] 3)
  replace k4 := blk_alloc k4 (.cells #[.int .i64 (-1)] 3)
  have s6_ : ((((((w.alloc (.cells (dcells d A1 c1 A2 c2 A3 c3 A4 c4 B4 d4 B5 d5 B6 d6) 33)).alloc (.cells #[.int .i64 kk] 3)).alloc (.cells ztarr 26)).alloc (.cells ztarr 26)).alloc (.cells #[.int .i64 0] 3)).alloc (.cells #[.int .i64 (-1)] 3)).heap.size = w.heap.size + 1 + 1 + 1 + 1 + 1 + 1 := by rw [World.size_alloc, s5_]
  have b0 : Below w.heap.size w ((((((w.alloc (.cells (dcells d A1 c1 A2 c2 A3 c3 A4 c4 B4 d4 B5 d5 B6 d6) 33)).alloc (.cells #[.int .i64 kk] 3)).alloc (.cells ztarr 26)).alloc (.cells ztarr 26)).alloc (.cells #[.int .i64 0] 3)).alloc (.cells #[.int .i64 (-1)] 3)) := (((((((Below.refl _ w).alloc (by rw [s0_]; omega) _).alloc (by rw [s1_]; omega) _).alloc (by rw [s2_]; omega) _).alloc (by rw [s3_]; omega) _).alloc (by rw [s4_]; omega) _).alloc (by rw [s5_]; omega) _)
  have T := at1_c (st := sitesD d) (kk := kk) hB
  have hJ : AtJ Base w.heap.size kk (sitesD d) 0 (fun b => b = w.heap.size + 4 ∨ b = w.heap.size + 1 ∨ b = w.heap.size + 5 ∨ b = w.heap.size + 3) ((((((w.alloc (.cells (dcells d A1 c1 A2 c2 A3 c3 A4 c4 B4 d4 B5 d5 B6 d6) 33)).alloc (.cells #[.int .i64 kk] 3)).alloc (.cells ztarr 26)).alloc (.cells ztarr 26)).alloc (.cells #[.int .i64 0] 3)).alloc (.cells #[.int .i64 (-1)] 3)) :=
    ⟨fun b => Iff.rfl, (by rw [show wrap64 (((0 : Nat) : Int)) = 0 by (unfold wrap64; omega)]; exact k4), k1, k5, none, 0, none, 0, k3, zT_ft _ _⟩
  have hc := over_c T d (At.self _) ho.1 ho.2.1 ho.2.2 (w := ((((((w.alloc (.cells (dcells d A1 c1 A2 c2 A3 c3 A4 c4 B4 d4 B5 d5 B6 d6) 33)).alloc (.cells #[.int .i64 kk] 3)).alloc (.cells ztarr 26)).alloc (.cells ztarr 26)).alloc (.cells #[.int .i64 0] 3)).alloc (.cells #[.int .i64 (-1)] 3))) (fun b hb => by have := hB b hb; rw [s6_]; omega) (hf.below b0) hJ
  rw [← sitesD_len] at hc
  have HC := Aside0.mk hc
  have HB0 := Aside0.mk b0
  have HS6 := Aside0.mk s6_
  have HK2 := Aside0.mk k2
  have HBase := Aside0.mk hB
  clear hc hJ hf b0 hB k1 k2 k3 k4 k5 s0_ s1_ s2_ s3_ s4_ s5_ s6_
  go_enter Try.func13, Try.ntmps13
  go_wp2_with (first
    | (refine wpList_load_row rfl 33 (.tmp 2) rfl w.heap.size rfl _ _ (0, 0) _ k0 Try.underlying33 rfl (by kernel_rfl) ?_)
    | fail)
  go_call (HC.out) as e w1 ⟨X1, y1, X2, y2, X3, y3, X4, y4, Z4, u4, Z5, u5, Z6, u6, O', Pr, he, -, -, hJ', -, hq⟩
  subst he
  obtain ⟨hO', g4, g1, g5, T3, e3, T4, e4, g3, hft⟩ := hJ'
  have hR : atR d kk = if (atS (sitesD d) kk (sitesD d).length).2 < 0 then (zT, 0, false) else ((atS (sitesD d) kk (sitesD d).length).1, (atS (sitesD d) kk (sitesD d).length).2, true) := rfl
  obtain ⟨r, hr⟩ : ∃ r, atS (sitesD d) kk (sitesD d).length = r := ⟨_, rfl⟩
  rw [hr] at hR g5 g3 hft
  obtain ⟨t, nd⟩ := r
  dsimp only at hR g5 g3 hft
  have g2 := hq.blk HK2.out (fun h => by rcases h with h | h | h | h <;> omega)
  replace g5 : w1.heap[w.heap.size + 1 + 1 + 1 + 1 + 1]? = some (.cells #[.int .i64 nd] 3 (0, 0)) := g5
  replace g3 : w1.heap[w.heap.size + 1 + 1 + 1]? = some (.cells (tarr t T3 e3 T4 e4) 26 (0, 0)) := g3
  have HR := Aside0.mk hR
  have HFT := Aside0.mk hft
  have hbb : Below w.heap.size w w1 := HB0.out.trans (hq.below (by rw [HS6.out]; omega) (fun k hk h => by omega))
  have HBB := Aside0.mk hbb
  have HK := Aside0.mk (And.intro g2 (And.intro g3 g5))
  obtain ⟨m5, m5', m5l⟩ := one g5
  obtain ⟨⟨p0, p1, p2, p3, p4⟩, ⟨q0, q1, q2, q3, q4⟩, lp⟩ := five g2
  obtain ⟨⟨t0, t1, t2, t3, t4⟩, ⟨o0, o1, o2, o3, o4⟩, lt⟩ := five g3
  clear hr hR hft hbb hq hO' g1 g2 g3 g4 g5 k0 HC HK2 HS6
  by_cases hc : nd < 0
  · have hd : decide (nd < 0) = true := decide_eq_true hc
    have HC := Aside0.mk hc
    clear hc t0 t1 t2 t3 t4 o0 o1 o2 o3 o4 lt
    go_wp2
    (try simp only [Exit.inBlock, Exit.then])
    refine bodyPost_ret (results_ctt rfl _ _ _ 26 _ (0, 0) _ rfl (stored HK.out.1 (.int .i64 0) (.int .i64 0) (.string ⟨#[]⟩) (.slice none 0 0) (.slice none 0 0)) Try.underlying26 rfl (by kernel_rfl)) rfl ?_
    have hb : Below w.heap.size w _ := below_stored HBB.out (g := w.heap.size + 1 + 1) (by omega) (.int .i64 0) (.int .i64 0) (.string ⟨#[]⟩) (.slice none 0 0) (.slice none 0 0)
    refine ⟨none, 0, none, 0, ?_, ?_, hb⟩
    · rw [HR.out, if_pos HC.out]; rfl
    · rw [HR.out, if_pos HC.out]; exact zT_ft _ _
  · have hd : decide (nd < 0) = false := decide_eq_false hc
    have HC := Aside0.mk hc
    clear hc
    go_wp2
    have kD := HK.out.1
    refine start_ (ds := []) (S := (fun w' => Kq (fun k => k = w.heap.size + 1 + 1) w1 w' ∧ w'.cell? ⟨w.heap.size + 1 + 1 + 1 + 1 + 1, 0, none⟩ = some (.int .i64 nd) ∧ w'.cell? ⟨w.heap.size + 1 + 1 + 1, 0, none⟩ = some (.int .i64 t.f0) ∧ w'.cell? ⟨w.heap.size + 1 + 1 + 1, 1, none⟩ = some (.int .i64 t.f1) ∧ w'.cell? ⟨w.heap.size + 1 + 1 + 1, 2, none⟩ = some (.string t.f2) ∧ w'.cell? ⟨w.heap.size + 1 + 1 + 1, 3, none⟩ = some (.slice T3 t.f3.length e3) ∧ w'.cell? ⟨w.heap.size + 1 + 1 + 1, 4, none⟩ = some (.slice T4 t.f4.length e4))) #[false, false, false, false, false] (by kernel_rfl) rfl rfl ?_ (fun hHeld => ?_)
    · exact (and_of' (fun hK_ => ⟨hK_.cell m5 (by dsimp only; omega), hK_.cell t0 (by dsimp only; omega), hK_.cell t1 (by dsimp only; omega), hK_.cell t2 (by dsimp only; omega), hK_.cell t3 (by dsimp only; omega), hK_.cell t4 (by dsimp only; omega)⟩) (Kq.of_below (Below.refl _ _).drew))
    (refine take_ (i := 0) (N := (some 16)) (v := ?_) #[true, false, false, false, false] rfl rfl (by kernel_rfl) (fun _ _ _ h => h) (Or.inl ⟨by rfl, ?_⟩) hHeld rfl ?_; rotate_left 1; focus ((intro w hSw; (try dsimp only at hSw); first | (go_simp; done) | (go_simp; with_reducible rfl)); done); (try simp only [Act.put, List.setIfInBounds_toArray, List.set_cons_zero, List.set_cons_succ]))
    (refine take_ (i := 1) (N := (some 17)) (v := ?_) #[true, true, false, false, false] rfl rfl (by kernel_rfl) (fun _ _ _ h => h) (Or.inl ⟨by rfl, ?_⟩) hHeld rfl ?_; rotate_left 1; focus ((intro w hSw; (try dsimp only at hSw); first | (go_simp; done) | (go_simp; with_reducible rfl)); done); (try simp only [Act.put, List.setIfInBounds_toArray, List.set_cons_zero, List.set_cons_succ]))
    (refine one_ (i := 2) (N := none) #[true, true, true, false, false] rfl rfl (by kernel_rfl) (by decide) (fun K hK => ?_); go_simp; (try go_wp2_with fail); refine hK.out _ _ (and_of' (fun hK_ => ⟨hK_.cell m5 (by dsimp only; omega), hK_.cell t0 (by dsimp only; omega), hK_.cell t1 (by dsimp only; omega), hK_.cell t2 (by dsimp only; omega), hK_.cell t3 (by dsimp only; omega), hK_.cell t4 (by dsimp only; omega)⟩) (((Kq.refl (fun k => k = w.heap.size + 1 + 1) w1).set5 (.inl (Eq.refl (w.heap.size + 1 + 1))) (.int .i64 t.f0) (.int .i64 t.f1) (.string t.f2) (.slice T3 t.f3.length e3) (.slice T4 t.f4.length e4)).trans (Kq.of_below (Below.refl _ _).drew))) ?_; clear hHeld hK K; intro hHeld; (try simp only [Act.put, List.setIfInBounds_toArray, List.set_cons_zero, List.set_cons_succ]))
    (refine take_ (i := 3) (N := (some 5)) (v := ?_) #[true, true, true, true, false] rfl rfl (by kernel_rfl) (fun _ _ _ h => h) (Or.inl ⟨by rfl, ?_⟩) hHeld rfl ?_; rotate_left 1; focus ((intro w hSw; (try dsimp only at hSw); first | (go_simp; done) | (go_simp; with_reducible rfl)); done); (try simp only [Act.put, List.setIfInBounds_toArray, List.set_cons_zero, List.set_cons_succ]))
    (refine take_ (i := 4) (N := (some 6)) (v := ?_) #[true, true, true, true, true] rfl rfl (by kernel_rfl) (fun _ _ _ h => h) (Or.inl ⟨by rfl, ?_⟩) hHeld rfl ?_; rotate_left 1; focus ((intro w hSw; (try dsimp only at hSw); first | (go_simp; done) | (go_simp; with_reducible rfl)); done); (try simp only [Act.put, List.setIfInBounds_toArray, List.set_cons_zero, List.set_cons_succ]))
    refine done_ (by kernel_rfl) ?_
    go_wp2_with fail
    (try simp only [Exit.inBlock, Exit.then])
    refine bodyPost_ret (results_ctt rfl _ _ _ 26 _ (0, 0) _ rfl (blk_drew (stored HK.out.1 (.int .i64 t.f0) (.int .i64 t.f1) (.string t.f2) (.slice T3 t.f3.length e3) (.slice T4 t.f4.length e4))) Try.underlying26 rfl (by kernel_rfl)) rfl ?_
    have hq : Kq (fun k => k = w.heap.size + 1 + 1) w1 (((((w1.setCell ⟨w.heap.size + 1 + 1, 0, none⟩ (.int .i64 t.f0)).setCell ⟨w.heap.size + 1 + 1, 1, none⟩ (.int .i64 t.f1)).setCell ⟨w.heap.size + 1 + 1, 2, none⟩ (.string t.f2)).setCell ⟨w.heap.size + 1 + 1, 3, none⟩ (.slice T3 t.f3.length e3)).setCell ⟨w.heap.size + 1 + 1, 4, none⟩ (.slice T4 t.f4.length e4)).drew := ((Kq.refl (fun k => k = w.heap.size + 1 + 1) w1).set5 (.inl (Eq.refl (w.heap.size + 1 + 1))) (.int .i64 t.f0) (.int .i64 t.f1) (.string t.f2) (.slice T3 t.f3.length e3) (.slice T4 t.f4.length e4)).trans (Kq.of_below (Below.refl _ _).drew)
    refine ⟨T3, e3, T4, e4, ?_, ?_, ?_⟩
    · rw [HR.out, if_neg (Int.not_lt.2 HC.out)]; rfl
    · rw [HR.out, if_neg (Int.not_lt.2 HC.out)]; exact HFT.out.kq hq (fun k hk he => by have := HBase.out k hk; omega)
    · exact HBB.out.trans (hq.below (by have := HBB.out.size; omega) (fun k hk h => by omega))
abbrev zD : De := z33
theorem zD_fd (w : World) (ok : Nat → Prop) : FD w ok zD none 0 none 0 none 0 none 0 none 0 none 0 none 0 := ⟨⟨Nat.le_refl _, Kd.F_nil _ _ _⟩, ⟨Nat.le_refl _, Kd.F_nil _ _ _⟩, zT_ft _ _, Nat.le_refl _, Kd.F_nil _ _ _, Nat.le_refl _, Kd.F_nil _ _ _, Nat.le_refl _, Kd.F_nil _ _ _⟩
def putR (d : De) (kk : Int) (t : Ty) : De × Bool := if hitB kk (sitesD d).length then (turnD (putF kk t) d, true) else (zD, false)
def PtOut (Base : Nat → Prop) (r : De × Bool) (w : World) (e : Ending) (w' : World) : Prop :=
  ∃ (A1 : Option Addr) (c1 : Nat) (A2 : Option Addr) (c2 : Nat) (A3 : Option Addr) (c3 : Nat) (A4 : Option Addr) (c4 : Nat) (B4 : Option Addr) (d4 : Nat) (B5 : Option Addr) (d5 : Nat) (B6 : Option Addr) (d6 : Nat), e = .returned (.tuple #[dv r.1 A1 c1 A2 c2 A3 c3 A4 c4 B4 d4 B5 d5 B6 d6, .bool r.2]) ∧ FD w' (fun b => Base b ∨ w.heap.size ≤ b) r.1 A1 c1 A2 c2 A3 c3 A4 c4 B4 d4 B5 d5 B6 d6 ∧ Below w.heap.size w w'
set_option maxHeartbeats 4000000 in
set_option maxRecDepth 100000 in
theorem sput_c (d : De) (ho : DOK d) (kk : Int) (t : Ty) {A1 A2 A3 A4 B4 B5 B6 : Option Addr} {c1 c2 c3 c4 d4 d5 d6 : Nat} {T3 T4 : Option Addr} {e3 e4 : Nat} {Base : Nat → Prop} {w : World} (hB : ∀ b, Base b → b < w.heap.size) (hf : FD w Base d A1 c1 A2 c2 A3 c3 A4 c4 B4 d4 B5 d5 B6 d6) (ht : FT w Base t T3 e3 T4 e4) :
    Calls Try.prog 15 #[dv d A1 c1 A2 c2 A3 c3 A4 c4 B4 d4 B5 d5 B6 d6, .int .i64 kk, tv t T3 e3 T4 e4] w (PtOut Base (putR d kk t) w) := by
  have s0_ : w.heap.size = w.heap.size := by rfl
  have k0 := blk_new w (.cells (dcells d A1 c1 A2 c2 A3 c3 A4 c4 B4 d4 B5 d5 B6 d6) 33)
  rw [s0_] at k0
  have s1_ : (w.alloc (.cells (dcells d A1 c1 A2 c2 A3 c3 A4 c4 B4 d4 B5 d5 B6 d6) 33)).heap.size = w.heap.size + 1 := by rw [World.size_alloc, s0_]
  have k1 := blk_new (w.alloc (.cells (dcells d A1 c1 A2 c2 A3 c3 A4 c4 B4 d4 B5 d5 B6 d6) 33)) (.cells #[.int .i64 kk] 3)
  rw [s1_] at k1
  replace k0 := blk_alloc k0 (.cells #[.int .i64 kk] 3)
  have s2_ : ((w.alloc (.cells (dcells d A1 c1 A2 c2 A3 c3 A4 c4 B4 d4 B5 d5 B6 d6) 33)).alloc (.cells #[.int .i64 kk] 3)).heap.size = w.heap.size + 1 + 1 := by rw [World.size_alloc, s1_]
  have k2 := blk_new ((w.alloc (.cells (dcells d A1 c1 A2 c2 A3 c3 A4 c4 B4 d4 B5 d5 B6 d6) 33)).alloc (.cells #[.int .i64 kk] 3)) (.cells (tarr t T3 e3 T4 e4) 26)
  rw [s2_] at k2
  replace k0 := blk_alloc k0 (.cells (tarr t T3 e3 T4 e4) 26)
  replace k1 := blk_alloc k1 (.cells (tarr t T3 e3 T4 e4) 26)
  have s3_ : (((w.alloc (.cells (dcells d A1 c1 A2 c2 A3 c3 A4 c4 B4 d4 B5 d5 B6 d6) 33)).alloc (.cells #[.int .i64 kk] 3)).alloc (.cells (tarr t T3 e3 T4 e4) 26)).heap.size = w.heap.size + 1 + 1 + 1 := by rw [World.size_alloc, s2_]
  have k3 := blk_new (((w.alloc (.cells (dcells d A1 c1 A2 c2 A3 c3 A4 c4 B4 d4 B5 d5 B6 d6) 33)).alloc (.cells #[.int .i64 kk] 3)).alloc (.cells (tarr t T3 e3 T4 e4) 26)) (.cells zdcells 33)
  rw [s3_] at k3
  replace k0 := blk_alloc k0 (.cells zdcells 33)
  replace k1 := blk_alloc k1 (.cells zdcells 33)
  replace k2 := blk_alloc k2 (.cells zdcells 33)
  have s4_ : ((((w.alloc (.cells (dcells d A1 c1 A2 c2 A3 c3 A4 c4 B4 d4 B5 d5 B6 d6) 33)).alloc (.cells #[.int .i64 kk] 3)).alloc (.cells (tarr t T3 e3 T4 e4) 26)).alloc (.cells zdcells 33)).heap.size = w.heap.size + 1 + 1 + 1 + 1 := by rw [World.size_alloc, s3_]
  have k4 := blk_new ((((w.alloc (.cells (dcells d A1 c1 A2 c2 A3 c3 A4 c4 B4 d4 B5 d5 B6 d6) 33)).alloc (.cells #[.int .i64 kk] 3)).alloc (.cells (tarr t T3 e3 T4 e4) 26)).alloc (.cells zdcells 33)) (.cells #[.int .i64 0] 3)
  rw [s4_] at k4
  replace k0 := blk_alloc k0 (.cells #[.int .i64 0] 3)
  replace k1 := blk_alloc k1 (.cells #[.int .i64 0] 3)
  replace k2 := blk_alloc k2 (.cells #[.int .i64 0] 3)
  replace k3 := blk_alloc k3 (.cells #[.int .i64 0] 3)
  have s5_ : (((((w.alloc (.cells (dcells d A1 c1 A2 c2 A3 c3 A4 c4 B4 d4 B5 d5 B6 d6) 33)).alloc (.cells #[.int .i64 kk] 3)).alloc (.cells (tarr t T3 e3 T4 e4) 26)).alloc (.cells zdcells 33)).alloc (.cells #[.int .i64 0] 3)).heap.size = w.heap.size + 1 + 1 + 1 + 1 + 1 := by rw [World.size_alloc, s4_]
  have k5 := blk_new (((((w.alloc (.cells (dcells d A1 c1 A2 c2 A3 c3 A4 c4 B4 d4 B5 d5 B6 d6) 33)).alloc (.cells #[.int .i64 kk] 3)).alloc (.cells (tarr t T3 e3 T4 e4) 26)).alloc (.cells zdcells 33)).alloc (.cells #[.int .i64 0] 3)) (.cells #[.bool false] 4)
  rw [s5_] at k5
  replace k0 := blk_alloc k0 (.cells #[.bool false] 4)
  replace k1 := blk_alloc k1 (.cells #[.bool false] 4)
  replace k2 := blk_alloc k2 (.cells #[.bool false] 4)
  replace k3 := blk_alloc k3 (.cells #[.bool false] 4)
  replace k4 := blk_alloc k4 (.cells #[.bool false] 4)
  have s6_ : ((((((w.alloc (.cells (dcells d A1 c1 A2 c2 A3 c3 A4 c4 B4 d4 B5 d5 B6 d6) 33)).alloc (.cells #[.int .i64 kk] 3)).alloc (.cells (tarr t T3 e3 T4 e4) 26)).alloc (.cells zdcells 33)).alloc (.cells #[.int .i64 0] 3)).alloc (.cells #[.bool false] 4)).heap.size = w.heap.size + 1 + 1 + 1 + 1 + 1 + 1 := by rw [World.size_alloc, s5_]
  have b0 : Below w.heap.size w ((((((w.alloc (.cells (dcells d A1 c1 A2 c2 A3 c3 A4 c4 B4 d4 B5 d5 B6 d6) 33)).alloc (.cells #[.int .i64 kk] 3)).alloc (.cells (tarr t T3 e3 T4 e4) 26)).alloc (.cells zdcells 33)).alloc (.cells #[.int .i64 0] 3)).alloc (.cells #[.bool false] 4)) := (((((((Below.refl _ w).alloc (by rw [s0_]; omega) _).alloc (by rw [s1_]; omega) _).alloc (by rw [s2_]; omega) _).alloc (by rw [s3_]; omega) _).alloc (by rw [s4_]; omega) _).alloc (by rw [s5_]; omega) _)
  have T := put1_c (st := sitesD d) (kk := kk) (t := t) (T3 := T3) (e3 := e3) (T4 := T4) (e4 := e4) hB
  have hJ : PutJ Base w.heap.size kk t T3 e3 T4 e4 0 (fun b => b = w.heap.size + 4 ∨ b = w.heap.size + 1 ∨ b = w.heap.size + 5 ∨ b = w.heap.size + 2) ((((((w.alloc (.cells (dcells d A1 c1 A2 c2 A3 c3 A4 c4 B4 d4 B5 d5 B6 d6) 33)).alloc (.cells #[.int .i64 kk] 3)).alloc (.cells (tarr t T3 e3 T4 e4) 26)).alloc (.cells zdcells 33)).alloc (.cells #[.int .i64 0] 3)).alloc (.cells #[.bool false] 4)) :=
    ⟨fun b => Iff.rfl, (by rw [show wrap64 (((0 : Nat) : Int)) = 0 by (unfold wrap64; omega)]; exact k4), k1, k5, k2, ht.below b0⟩
  have hc := over_c T d (At.self _) ho.1 ho.2.1 ho.2.2 (w := ((((((w.alloc (.cells (dcells d A1 c1 A2 c2 A3 c3 A4 c4 B4 d4 B5 d5 B6 d6) 33)).alloc (.cells #[.int .i64 kk] 3)).alloc (.cells (tarr t T3 e3 T4 e4) 26)).alloc (.cells zdcells 33)).alloc (.cells #[.int .i64 0] 3)).alloc (.cells #[.bool false] 4))) (fun b hb => by have := hB b hb; rw [s6_]; omega) (hf.below b0) hJ
  rw [← sitesD_len] at hc
  have HC := Aside0.mk hc
  have HB0 := Aside0.mk b0
  have HS6 := Aside0.mk s6_
  have HK3 := Aside0.mk k3
  have HBase := Aside0.mk hB
  clear hc hJ hf b0 hB k1 k2 k3 k4 k5 s0_ s1_ s2_ s3_ s4_ s5_ s6_ ht
  go_enter Try.func15, Try.ntmps15
  go_wp2_with (first
    | (refine wpList_load_row rfl 33 (.tmp 3) rfl w.heap.size rfl _ _ (0, 0) _ k0 Try.underlying33 rfl (by kernel_rfl) ?_)
    | fail)
  go_call (HC.out) as e w1 ⟨X1, y1, X2, y2, X3, y3, X4, y4, Z4, u4, Z5, u5, Z6, u6, O', Pr, he, hfd, hPr, hJ', -, hq⟩
  subst he
  obtain ⟨hO', g4, g1, g5, -, -⟩ := hJ'
  have hR : putR d kk t = if hitB kk (sitesD d).length then (turnD (putF kk t) d, true) else (zD, false) := rfl
  obtain ⟨hit, hh⟩ : ∃ hit, hitB kk (sitesD d).length = hit := ⟨_, rfl⟩
  rw [hh] at hR g5
  obtain ⟨U, hU⟩ : ∃ U, turnD (putF kk t) d = U := ⟨_, rfl⟩
  rw [hU] at hR hfd ⊢
  have g3 := hq.blk HK3.out (fun h => by rcases h with h | h | h | h <;> omega)
  have hb1 : Below w.heap.size w w1 := HB0.out.trans (hq.below (by rw [HS6.out]; omega) (fun k hk h => by omega))
  have hz1 : w.heap.size + 6 ≤ w1.heap.size := by have := hq.size; rw [HS6.out] at this; exact this
  have kN := blk_new w1 (.cells zdcells 33)
  have bN := below_alloc1 w1 (.cells zdcells 33)
  have hqR : Kq (fun b => b = w1.heap.size) _ _ := Kq.setRow (w1.alloc (.cells zdcells 33)) (g := w1.heap.size) (dcells U X1 y1 X2 y2 X3 y3 X4 y4 Z4 u4 Z5 u5 Z6 u6)
  have kX := setRow_heap (w1.alloc (.cells zdcells 33)) w1.heap.size _ (dcells U X1 y1 X2 y2 X3 y3 X4 y4 Z4 u4 Z5 u5 Z6 u6) _ _ kN
  have r3 := hqR.blk (blk_below g3 bN) (by omega)
  have r5 := hqR.blk (blk_below g5 bN) (by omega)
  have hfd2 : FD _ (fun b => Base b ∨ w.heap.size + 6 ≤ b ∧ b < w1.heap.size) U X1 y1 X2 y2 X3 y3 X4 y4 Z4 u4 Z5 u5 Z6 u6 := ((hfd.below bN).mono (fun b hb => by rcases hb with h | h; exact .inl h; exact .inr ⟨by have := (hPr b h).1; rw [HS6.out] at this; exact this, (hPr b h).2.1⟩)).kq hqR (fun b hb he => by rcases hb with h | h; (have := HBase.out b h; omega); omega)
  have hb2 : Below w.heap.size w _ := (hb1.trans (bN.mono hb1.size)).trans (hqR.below (by have := bN.size; omega) (fun k hk h => by omega))
  have HKN := Aside0.mk kN
  have HR := Aside0.mk hR
  have HFD := Aside0.mk hfd2
  have HB2 := Aside0.mk hb2
  have HZ1 := Aside0.mk hz1
  clear hfd hPr hO' g4 g1 g3 g5 hq hb1 kN bN hqR hR hU hh hfd2 hb2 HB0 HS6 HK3
  generalize hW3 : World.setRow _ _ _ = W3 at kX r3 r5 HFD HB2
  obtain ⟨m5, m5', m5l⟩ := one r5
  cases hit with
  | false =>
    go_wp2_with (first
      | (refine wpList_store_row rfl 33 (.tmp 10) (.tmp 13) rfl w1.heap.size (dcells U X1 y1 X2 y2 X3 y3 X4 y4 Z4 u4 Z5 u5 Z6 u6) rfl rfl _ _ HKN.out (by kernel_rfl) rfl (by simp [Value.oneCell']) ?_; rw [hW3])
      | (refine wpList_store_row rfl 33 (.tmp 6) (.tmp 16) rfl (w.heap.size + 1 + 1 + 1) zdcells rfl rfl _ _ r3 (by kernel_rfl) rfl (by simp [Value.oneCell']) ?_)
      | fail)
    (try simp only [Exit.inBlock, Exit.then])
    refine bodyPost_ret (results_ct rfl _ _ _ 33 _ (0, 0) _ rfl (setRow_heap W3 (w.heap.size + 1 + 1 + 1) _ _ _ _ r3) Try.underlying33 rfl (by kernel_rfl)) rfl ?_
    have hS : Kq (fun b => b = w.heap.size + 1 + 1 + 1) W3 (W3.setRow (w.heap.size + 1 + 1 + 1) zdcells) := Kq.setRow _ _
    generalize World.setRow _ _ _ = X1_ at hS ⊢
    have hbf : Below w.heap.size w X1_ := HB2.out.trans (hS.below (by have := HB2.out.size; omega) (fun k hk h => by omega))
    rw [HR.out, if_neg (by decide)]
    exact ⟨none, 0, none, 0, none, 0, none, 0, none, 0, none, 0, none, 0, rfl, zD_fd _ _, hbf⟩
  | true =>
    go_wp2_with (first
      | (refine wpList_store_row rfl 33 (.tmp 10) (.tmp 13) rfl w1.heap.size (dcells U X1 y1 X2 y2 X3 y3 X4 y4 Z4 u4 Z5 u5 Z6 u6) rfl rfl _ _ HKN.out (by kernel_rfl) rfl (by simp [Value.oneCell']) ?_; rw [hW3])
      | (refine wpList_load_row rfl 33 (.tmp 10) rfl w1.heap.size rfl _ _ (0, 0) _ kX Try.underlying33 rfl (by kernel_rfl) ?_)
      | (refine wpList_store_row rfl 33 (.tmp 6) (.tmp 17) rfl (w.heap.size + 1 + 1 + 1) (dcells U X1 y1 X2 y2 X3 y3 X4 y4 Z4 u4 Z5 u5 Z6 u6) rfl rfl _ _ r3 (by kernel_rfl) rfl (by simp [Value.oneCell']) ?_)
      | fail)
    (try simp only [Exit.inBlock, Exit.then])
    refine bodyPost_ret (results_ct rfl _ _ _ 33 _ (0, 0) _ rfl (setRow_heap W3 (w.heap.size + 1 + 1 + 1) _ _ _ _ r3) Try.underlying33 rfl (by kernel_rfl)) rfl ?_
    have hS : Kq (fun b => b = w.heap.size + 1 + 1 + 1) W3 (W3.setRow (w.heap.size + 1 + 1 + 1) (dcells U X1 y1 X2 y2 X3 y3 X4 y4 Z4 u4 Z5 u5 Z6 u6)) := Kq.setRow _ _
    generalize World.setRow _ _ _ = X1_ at hS ⊢
    have hbf : Below w.heap.size w X1_ := HB2.out.trans (hS.below (by have := HB2.out.size; omega) (fun k hk h => by omega))
    rw [HR.out, show (if True then (U, true) else (zD, false)) = (U, true) from if_pos trivial]
    refine ⟨X1, y1, X2, y2, X3, y3, X4, y4, Z4, u4, Z5, u5, Z6, u6, rfl, ?_, hbf⟩
    exact (HFD.out.kq hS (fun b hb he => by have := HZ1.out; rcases hb with h | h; (have := HBase.out b h; omega); omega)).mono (fun b hb => by rcases hb with h | h; exact .inl h; exact .inr (by omega))
end Go.Proofs.Ytlenfmnkbepoiaa.PSitesTell

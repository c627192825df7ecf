/-
  Subst: texts of this claim, put together by a program of this session. No conditions beyond what each lemma says.
-/
import Derived.Test.YtnfnhjhnfdkinaazSubst23
import Derived.Test.YtnfnhjhnfdkinaazSubst37
namespace Go.Proofs.Ytnfnhjhnfdkinaa.PSubstPuts
open Go.RowKit Go.Proofs.YtnfnhjhnfdkinaaW.Mine Go.Proofs.YtnfnhjhnfdkinaaW.PrintWords Go.Proofs.YtnfnhjhnfdkinaaW.PrintLast Go.Proofs.YtnfnhjhnfdkinaaW.PrintMore
attribute [local go_sem] max2_int min2_int max_two min_two max_three min_three max_four min_four
set_option linter.unusedVariables false
set_option linter.unusedSimpArgs false
mutual
theorem sealed_okt (l : List ByteArray) (b : Int) : ∀ (t : Ty), Okt t → Okt (sealed l b t)
  | ⟨a0, a1, a2, a3, a4⟩, h => by
    rw [sealed_eq]
    split
    · exact .mk _ (Nat.zero_le _) (Nat.zero_le _) (fun y hy => by cases hy)
    · exact .mk _ h.l3 (by have := h.l80; rw [sealedAll_map]; simpa using this) (sealedAll_okt l b a4 h.all)
theorem sealedAll_okt (l : List ByteArray) (b : Int) : ∀ (m : List Ty), (∀ y, y ∈ m → Okt y) → ∀ y, y ∈ sealedAll l b m → Okt y
  | [], _, y, hy => by rw [sealedAll_nil] at hy; cases hy
  | a :: m, h, y, hy => by
    rw [sealedAll_cons] at hy
    rcases List.mem_cons.1 hy with rfl | hy
    · exact sealed_okt l b a (h a (List.mem_cons_self ..))
    · exact sealedAll_okt l b m (fun z hz => h z (List.mem_cons_of_mem _ hz)) y hy
end
theorem sealO_okt (l : List ByteArray) (b : Int) {t : Ty} (h : Okt t) : Okt (sealO l b t) := by unfold sealO; split; exact sealed_okt l b t h; exact h
theorem rseal_c (names : List ByteArray) (b : Int) (hn : names.length ≤ 140737488351232) {t : Ty} (o : Okt t) {A A3 A4 : Option Addr} {c c3 c4 : Nat} {w : World} (hN : RN w A c names) (h : RT w t A3 c3 A4 c4) :
    Calls Try.prog 30 #[tv t A3 c3 A4 c4, .slice A names.length c, .int .i64 b] w (TyOut w (sealO names b t)) := by
  obtain ⟨k, hk⟩ := rseal_f names b hn o
  have hf := h.ft
  refine (limbeckref07_Seal.calls k t.f0 t.f1 t.f2 _ A3 c3 t.f3 _ A4 c4 t.f4 A c names b _ _ _ _ _ w (Kd.V_mk hf.1 hf.2.1) (Kd.V_mk hf.2.2.1 hf.2.2.2) hN.1 hN.2 hk).mono ?_
  rintro e w' ⟨v3, v4, rfl, ⟨B3, d3, rfl, h3, f3⟩, ⟨B4, d4, rfl, h4, f4⟩, hb⟩
  exact ⟨B3, d3, B4, d4, rfl, ⟨h3, Kd.F_now f3, h4, Kd.F_now f4⟩, hb⟩
/-- Both seal to one type. -/
theorem seal_l (names : List ByteArray) (b : Int) (hn : names.length ≤ 140737488351232) {t : Ty} (o : Okt t) : ∃ u : Ty, Okt u ∧
    (∀ {A A3 A4 : Option Addr} {c c3 c4 : Nat} {w : World}, RN w A c names → RT w t A3 c3 A4 c4 → Calls Try.prog 29 #[tv t A3 c3 A4 c4, .slice A names.length c, .int .i64 b] w (TyOut w u)) ∧
    (∀ {A A3 A4 : Option Addr} {c c3 c4 : Nat} {w : World}, RN w A c names → RT w t A3 c3 A4 c4 → Calls Try.prog 30 #[tv t A3 c3 A4 c4, .slice A names.length c, .int .i64 b] w (TyOut w u)) :=
  ⟨sealO names b t, sealO_okt names b o, fun hN h => seal_c names b hn o hN h, fun hN h => rseal_c names b hn o hN h⟩
theorem ropen_t {a : Int} {l : List Ty} (hl : l.length ≤ 140737488351232) (ol : ∀ y, y ∈ l → Okt y) (bl : ∀ y, y ∈ l → nodes y ≤ 1048576) {t : Ty} (o : Okt t) (sn : Sn t) (bt : nodes t ≤ 1048576) {L A3 A4 : Option Addr} {cL c3 c4 : Nat} {w : World} (hC : RL w L cL l) (ht : RT w t A3 c3 A4 c4) :
    Calls Try.prog 28 #[tv t A3 c3 A4 c4, .int .i64 a, .slice L l.length cL] w (POut w (openO a l t)) := by
  obtain ⟨k, hk⟩ := ropen_f (a := a) hl ol bl o sn bt
  have hf := ht.ft
  refine (limbeckref07_Open.calls k t.f0 t.f1 t.f2 _ A3 c3 t.f3 _ A4 c4 t.f4 a (fun k => k < w.heap.size) L cL l _ _ _ _ _ _ w (Kd.V_mk hf.1 hf.2.1) (Kd.V_mk hf.2.2.1 hf.2.2.2) (Kd.V_mk hC.2 (Kd.C_F heapTy hC.1)) hk).mono ?_
  rintro e w' ⟨v3, v4, rfl, ⟨B3, d3, rfl, h3, f3⟩, ⟨B4, d4, rfl, h4, f4⟩, hb⟩
  exact ⟨B3, d3, B4, d4, rfl, ⟨h3, Kd.F_now f3, h4, Kd.F_now f4⟩, hb⟩
theorem ropen_g {a : Int} {l : List Ty} (hl : l.length ≤ 140737488351232) (ol : ∀ y, y ∈ l → Okt y) (bl : ∀ y, y ∈ l → nodes y ≤ 1048576) {t : Ty} (o : Okt t) (sn : Sn t) (bt : nodes t ≤ 1048576) {L A3 A4 : Option Addr} {cL c3 c4 g : Nat} {w : World} (hg : g < w.heap.size) (hC : RLg w g L cL l) (ht : RTg w g t A3 c3 A4 c4) :
    Calls Try.prog 28 #[tv t A3 c3 A4 c4, .int .i64 a, .slice L l.length cL] w (POutg w g (openO a l t)) := by
  obtain ⟨k, hk⟩ := ropen_f (a := a) hl ol bl o sn bt
  refine (limbeckref07_Open.calls k t.f0 t.f1 t.f2 (fun k => k ≠ g) A3 c3 t.f3 (fun k => k ≠ g) A4 c4 t.f4 a (fun k => k ≠ g) L cL l _ _ _ _ _ _ w (Kd.V_mk ht.1 ht.2.1) (Kd.V_mk ht.2.2.1 ht.2.2.2) (Kd.V_mk hC.2 hC.1) hk).mono ?_
  rintro e w' ⟨v3, v4, rfl, ⟨B3, d3, rfl, h3, f3⟩, ⟨B4, d4, rfl, h4, f4⟩, hb⟩
  exact ⟨B3, d3, B4, d4, rfl, ⟨h3, Kd.F_mono f3 (fun k hk => by omega), h4, Kd.F_mono f4 (fun k hk => by omega)⟩, hb⟩
/-- Both open to one type. -/
theorem open_l (b : Int) {l : List Ty} (hl : l.length * 80 ≤ 140737488351232) (ol : ∀ y, y ∈ l → Okt y) (bl : ∀ y, y ∈ l → nodes y ≤ 1048576) {t : Ty} (o : Okt t) (sn : Sn t) (bt : nodes t ≤ 1048576) : ∃ (u : Ty) (ok : Bool), Okt u ∧
    (∀ {L A3 A4 : Option Addr} {cL c3 c4 : Nat} {w : World}, RL w L cL l → RT w t A3 c3 A4 c4 → Calls Try.prog 26 #[tv t A3 c3 A4 c4, .int .i64 b, .slice L l.length cL] w (POut' w u ok)) ∧
    (∀ {L A3 A4 : Option Addr} {cL c3 c4 g : Nat} {w : World}, g < w.heap.size → RLg w g L cL l → RTg w g t A3 c3 A4 c4 → Calls Try.prog 26 #[tv t A3 c3 A4 c4, .int .i64 b, .slice L l.length cL] w (POutg' w g u ok)) ∧
    (∀ {L A3 A4 : Option Addr} {cL c3 c4 : Nat} {w : World}, RL w L cL l → RT w t A3 c3 A4 c4 → Calls Try.prog 28 #[tv t A3 c3 A4 c4, .int .i64 b, .slice L l.length cL] w (POut' w u ok)) ∧
    (∀ {L A3 A4 : Option Addr} {cL c3 c4 g : Nat} {w : World}, g < w.heap.size → RLg w g L cL l → RTg w g t A3 c3 A4 c4 → Calls Try.prog 28 #[tv t A3 c3 A4 c4, .int .i64 b, .slice L l.length cL] w (POutg' w g u ok)) :=
  ⟨(openO b l t).getD z25, (openO b l t).isSome, openO_okt ol o, fun hC h => open_t b hl (fun y hy => okt_sm (ol y hy)) sn hC h, fun hg hC h => open_g b hl (fun y hy => okt_sm (ol y hy)) sn hg hC h, fun hC h => ropen_t (by omega) ol bl o sn bt hC h, fun hg hC h => ropen_g (by omega) ol bl o sn bt hg hC h⟩
theorem types_lr {m : List Bi} (hm : m.length * 80 ≤ 140737488351232) {TL : List Ty} (hT : m.map (·.f1) = TL) :
    (∀ {A : Option Addr} {c : Nat} {w : World}, RB w A c m → Calls Try.prog 27 #[.slice A m.length c] w fun e w' => ∃ B d, e = .returned (.slice B TL.length d) ∧ RL w' B d TL ∧ Below w.heap.size w w') ∧
    (∀ {A : Option Addr} {c g : Nat} {w : World}, g < w.heap.size → RBg w g A c m → Calls Try.prog 27 #[.slice A m.length c] w fun e w' => ∃ B d, e = .returned (.slice B TL.length d) ∧ RLg w' g B d TL ∧ Below w.heap.size w w') := by
  subst hT
  exact ⟨fun h => types_c hm h, fun hg h => types_g hm hg h⟩
theorem RLg.stored {w : World} {g : Nat} {A : Option Addr} {c : Nat} {l : List Ty} (h : RLg w g A c l) (v0 v1 v2 v3 v4 : Value) : RLg (((((w.setCell ⟨g, 0, none⟩ v0).setCell ⟨g, 1, none⟩ v1).setCell ⟨g, 2, none⟩ v2).setCell ⟨g, 3, none⟩ v3).setCell ⟨g, 4, none⟩ v4) g A c l :=
  ⟨Kd.F_far (Kd.F_far (Kd.F_far (Kd.F_far (Kd.F_far h.1 (p := ⟨g, 0, none⟩) (fun _ hk => hk) v0) (p := ⟨g, 1, none⟩) (fun _ hk => hk) v1) (p := ⟨g, 2, none⟩) (fun _ hk => hk) v2) (p := ⟨g, 3, none⟩) (fun _ hk => hk) v3) (p := ⟨g, 4, none⟩) (fun _ hk => hk) v4, h.2⟩
set_option maxHeartbeats 4000000 in
set_option maxRecDepth 100000 in
theorem seals_c (t : Ty) (names : List ByteArray) (b : Int) (l : List Bi) (ot : Okt t) (st : Sn t) (om : ∀ x, x ∈ l → Okt x.f1) (hn : names.length * 16 ≤ 140737488351232) (hl : l.length * 96 ≤ 140737488351232) (bt : nodes t ≤ 1048576) (bm : ∀ x, x ∈ l → nodes x.f1 ≤ 1048576)
    {A3 A4 N M : Option Addr} {c3 c4 cN cM : Nat} {w : World} (ht : RT w t A3 c3 A4 c4) (hN : RN w N cN names) (hM : RB w M cM l) :
    Calls Try.prog 7 #[tv t A3 c3 A4 c4, .slice N names.length cN, .int .i64 b, .slice M l.length cM] w (Yes w) := by
  obtain ⟨mu, cMu⟩ := much_c ot
  obtain ⟨fe, _, cFe⟩ := few_c (m := l) (by omega) om
  obtain ⟨TL, hTL⟩ : ∃ TL, l.map (·.f1) = TL := ⟨_, rfl⟩
  obtain ⟨cT, cTg⟩ := types_lr (m := l) (by omega) hTL
  obtain ⟨u, ok, oku, cO, cOg, cR, cRg⟩ := open_l b (l := TL) (by rw [← hTL, List.length_map]; omega) (fun y hy => by rw [← hTL] at hy; obtain ⟨z, hz, rfl⟩ := List.mem_map.1 hy; exact om z hz) (fun y hy => by rw [← hTL] at hy; obtain ⟨z, hz, rfl⟩ := List.mem_map.1 hy; exact bm z hz) ot st bt
  obtain ⟨sl, oks, cS, cRS⟩ := seal_l names b (by omega) ot
  have MU := Aside0.mk @cMu
  have FE := Aside0.mk @cFe
  have CT := Aside0.mk @cT
  have CTg := Aside0.mk @cTg
  have CO := Aside0.mk @cO
  have COg := Aside0.mk @cOg
  have CR := Aside0.mk @cR
  have CRg := Aside0.mk @cRg
  have CS := Aside0.mk @cS
  have CRS := Aside0.mk @cRS
  have HSU := Aside0.mk (same_refl u)
  have HSS := Aside0.mk (same_refl sl)
  clear cMu cFe cT cTg cO cOg cR cRg cS cRS hTL bm bt om
  have kT := blk_new w (.cells #[.int .i64 t.f0, .int .i64 t.f1, .string t.f2, .slice A3 t.f3.length c3, .slice A4 t.f4.length c4] 25)
  have b0 := below_alloc1 w (.cells #[.int .i64 t.f0, .int .i64 t.f1, .string t.f2, .slice A3 t.f3.length c3, .slice A4 t.f4.length c4] 25)
  replace ht := ht.below b0
  replace hN := hN.below b0
  replace hM := hM.below b0
  go_enter Try.func7, Try.ntmps7
  obtain ⟨⟨Tc0, Tc1, Tc2, Tc3, Tc4⟩, ⟨Tf0, Tf1, Tf2, Tf3, Tf4⟩, Tl⟩ := five kT
  go_wp2_with fail
  refine (MU.out ht).mono ?_
  rintro e_ w_ ⟨rfl, hb⟩
  clear Tc0 Tc1 Tc2 Tc3 Tc4 Tf0 Tf1 Tf2 Tf3 Tf4 Tl
  have b_1 := chain b0 hb
  replace kT := blk_below kT hb
  replace ht := ht.below hb
  replace hN := hN.below hb
  replace hM := hM.below hb
  clear b0
  clear hb
  by_cases hmu : 400 < mu
  · have cmu : decide (400 < mu) = true := decide_eq_true hmu
    obtain ⟨⟨Tc0, Tc1, Tc2, Tc3, Tc4⟩, ⟨Tf0, Tf1, Tf2, Tf3, Tf4⟩, Tl⟩ := five kT
    go_wp2_with fail
    refine (awake_c _).mono ?_
    rintro e_ w_ ⟨rfl, hb⟩
    clear Tc0 Tc1 Tc2 Tc3 Tc4 Tf0 Tf1 Tf2 Tf3 Tf4 Tl
    have b_2 := chain b_1 hb
    replace kT := blk_below kT hb
    replace ht := ht.below hb
    replace hN := hN.below hb
    replace hM := hM.below hb
    clear b_1
    clear hb
    obtain ⟨⟨Tc0, Tc1, Tc2, Tc3, Tc4⟩, ⟨Tf0, Tf1, Tf2, Tf3, Tf4⟩, Tl⟩ := five kT
    go_wp2
    go_ret
    exact ⟨rfl, b_2⟩
  have cmu : decide (400 < mu) = false := decide_eq_false hmu
  clear hmu
  by_cases hnn : 50 < (names.length : Int)
  · have cnn : decide (50 < (names.length : Int)) = true := decide_eq_true hnn
    have cnn2 : decide (50 < names.length) = true := decide_eq_true (by omega)
    obtain ⟨⟨Tc0, Tc1, Tc2, Tc3, Tc4⟩, ⟨Tf0, Tf1, Tf2, Tf3, Tf4⟩, Tl⟩ := five kT
    go_wp2_with fail
    refine (awake_c _).mono ?_
    rintro e_ w_ ⟨rfl, hb⟩
    clear Tc0 Tc1 Tc2 Tc3 Tc4 Tf0 Tf1 Tf2 Tf3 Tf4 Tl
    have b_3 := chain b_1 hb
    replace kT := blk_below kT hb
    replace ht := ht.below hb
    replace hN := hN.below hb
    replace hM := hM.below hb
    clear b_1
    clear hb
    obtain ⟨⟨Tc0, Tc1, Tc2, Tc3, Tc4⟩, ⟨Tf0, Tf1, Tf2, Tf3, Tf4⟩, Tl⟩ := five kT
    go_wp2
    go_ret
    exact ⟨rfl, b_3⟩
  have cnn : decide (50 < (names.length : Int)) = false := decide_eq_false hnn
  have cnn2 : decide (50 < names.length) = false := decide_eq_false (by omega)
  clear hnn
  obtain ⟨⟨Tc0, Tc1, Tc2, Tc3, Tc4⟩, ⟨Tf0, Tf1, Tf2, Tf3, Tf4⟩, Tl⟩ := five kT
  go_wp2_with fail
  refine (FE.out hM).mono ?_
  rintro e_ w3 ⟨rfl, hb⟩
  clear Tc0 Tc1 Tc2 Tc3 Tc4 Tf0 Tf1 Tf2 Tf3 Tf4 Tl
  have b_4 := chain b_1 hb
  replace kT := blk_below kT hb
  replace ht := ht.below hb
  replace hN := hN.below hb
  replace hM := hM.below hb
  clear b_1
  clear hb
  by_cases hfe : 100 < fe
  · have cfe : decide (100 < fe) = true := decide_eq_true hfe
    obtain ⟨⟨Tc0, Tc1, Tc2, Tc3, Tc4⟩, ⟨Tf0, Tf1, Tf2, Tf3, Tf4⟩, Tl⟩ := five kT
    go_wp2_with fail
    refine (awake_c _).mono ?_
    rintro e_ w_ ⟨rfl, hb⟩
    clear Tc0 Tc1 Tc2 Tc3 Tc4 Tf0 Tf1 Tf2 Tf3 Tf4 Tl
    have b_5 := chain b_4 hb
    replace kT := blk_below kT hb
    replace ht := ht.below hb
    replace hN := hN.below hb
    replace hM := hM.below hb
    clear b_4
    clear hb
    obtain ⟨⟨Tc0, Tc1, Tc2, Tc3, Tc4⟩, ⟨Tf0, Tf1, Tf2, Tf3, Tf4⟩, Tl⟩ := five kT
    go_wp2
    go_ret
    exact ⟨rfl, b_5⟩
  have cfe : decide (100 < fe) = false := decide_eq_false hfe
  clear hfe
  obtain ⟨⟨Tc0, Tc1, Tc2, Tc3, Tc4⟩, ⟨Tf0, Tf1, Tf2, Tf3, Tf4⟩, Tl⟩ := five kT
  go_wp2_with fail
  refine with_cont (G := ?G1) ?cont1 fun hmain => ?reg1
  case reg1 =>
    refine wp_region_held_drew (S := (fun w' => Below w3.heap.size w3 w' ∧ w'.cell? ⟨w.heap.size, 0, none⟩ = some (.int .i64 t.f0) ∧ w'.cell? ⟨w.heap.size, 1, none⟩ = some (.int .i64 t.f1) ∧ w'.cell? ⟨w.heap.size, 2, none⟩ = some (.string t.f2) ∧ w'.cell? ⟨w.heap.size, 3, none⟩ = some (.slice A3 t.f3.length c3) ∧ w'.cell? ⟨w.heap.size, 4, none⟩ = some (.slice A4 t.f4.length c4))) (by kernel_rfl) ?_ (fun hHeld => ?_)
    · exact (and_of (fun hB_ => ⟨cell_up hB_ Tc0, cell_up hB_ Tc1, cell_up hB_ Tc2, cell_up hB_ Tc3, cell_up hB_ Tc4⟩) ((Below.refl _ _).drew))
    have bd_ : Below w3.heap.size w3 w3.drew := (Below.refl _ _).drew
    generalize w3.drew = V1_0 at hHeld bd_ ⊢
    clear bd_
    (first | (refine take_held (i := 0) (d := (some 28)) (v := ?_) rfl rfl (by kernel_rfl) (by kernel_rfl) (by kernel_rfl) (fun _ _ _ h => h) (Or.inl ⟨by rfl, ?_⟩) hHeld ?_; rotate_left 1; focus ((intro w hSw; (try dsimp only at hSw); first | (go_simp; done) | (go_simp; with_reducible rfl)); done); (try simp only [Act.put, List.setIfInBounds_toArray, List.set_cons_zero, List.set_cons_succ])))
    (first | (refine take_held (i := 1) (d := (some 29)) (v := ?_) rfl rfl (by kernel_rfl) (by kernel_rfl) (by kernel_rfl) (fun _ _ _ h => h) (Or.inl ⟨by rfl, ?_⟩) hHeld ?_; rotate_left 1; focus ((intro w hSw; (try dsimp only at hSw); first | (go_simp; done) | (go_simp; with_reducible rfl)); done); (try simp only [Act.put, List.setIfInBounds_toArray, List.set_cons_zero, List.set_cons_succ])))
    (first | (refine take_held (i := 2) (d := (some 30)) (v := ?_) rfl rfl (by kernel_rfl) (by kernel_rfl) (by kernel_rfl) (fun _ _ _ h => h) (Or.inl ⟨by rfl, ?_⟩) hHeld ?_; rotate_left 1; focus ((intro w hSw; (try dsimp only at hSw); first | (go_simp; done) | (go_simp; with_reducible rfl)); done); (try simp only [Act.put, List.setIfInBounds_toArray, List.set_cons_zero, List.set_cons_succ])))
    refine wpAnyH_ready (rs := [3, 8]) (by kernel_rfl) (by simp) ?_
    refine AllReadyH.cons (o := _) rfl (fun K hK => ?_) (AllReadyH.cons (o := _) rfl (fun K hK => ?_) AllReadyH.nil)
    focus
      go_simp
      go_at_call 27
      refine (CT.out (hM.below (And.left hHeld))).mono ?_
      rintro e_ V1_1 ⟨LT, lt, rfl, hL, hb⟩
      (try go_wp2_with fail)
      refine hK.out _ _ (and_of (fun hB_ => ⟨cell_up hB_ Tc0, cell_up hB_ Tc1, cell_up hB_ Tc2, cell_up hB_ Tc3, cell_up hB_ Tc4⟩) (chain (And.left hHeld) hb)) ?_
      clear hHeld hK K
      intro hHeld
      (try simp only [Act.put, List.setIfInBounds_toArray, List.set_cons_zero, List.set_cons_succ])
      clear hb
      refine wpAnyH_ready (rs := [4, 8]) (by kernel_rfl) (by simp) ?_
      refine AllReadyH.cons (o := _) rfl (fun K hK => ?_) (AllReadyH.cons (o := _) rfl (fun K hK => ?_) AllReadyH.nil)
      focus
        go_simp
        go_at_call 26
        refine (CO.out hL (ht.below (And.left hHeld))).mono ?_
        rintro e_ V1_2 ⟨U3, u3, U4, u4, rfl, hu, hb⟩
        (try go_wp2_with fail)
        refine hK.out _ _ (and_of (fun hB_ => ⟨cell_up hB_ Tc0, cell_up hB_ Tc1, cell_up hB_ Tc2, cell_up hB_ Tc3, cell_up hB_ Tc4⟩) (chain (And.left hHeld) hb)) ?_
        clear hHeld hK K
        intro hHeld
        (try simp only [Act.put, List.setIfInBounds_toArray, List.set_cons_zero, List.set_cons_succ])
        replace hL := hL.below hb
        clear hb
        (first | (refine take_held (i := 5) (d := (some 27)) (v := ?_) rfl rfl (by kernel_rfl) (by kernel_rfl) (by kernel_rfl) (fun _ _ _ h => h) (Or.inl ⟨by rfl, ?_⟩) hHeld ?_; rotate_left 1; focus ((intro w hSw; (try dsimp only at hSw); first | (go_simp; done) | (go_simp; with_reducible rfl)); done); (try simp only [Act.put, List.setIfInBounds_toArray, List.set_cons_zero, List.set_cons_succ])))
        (first | (refine take_held (i := 6) (d := (some 33)) (v := ?_) rfl rfl (by kernel_rfl) (by kernel_rfl) (by kernel_rfl) (fun _ _ _ h => h) (Or.inl ⟨by rfl, ?_⟩) hHeld ?_; rotate_left 1; focus ((intro w hSw; (try dsimp only at hSw); first | (go_simp; done) | (go_simp; with_reducible rfl)); done); (try simp only [Act.put, List.setIfInBounds_toArray, List.set_cons_zero, List.set_cons_succ])))
        (first | (refine take_held (i := 7) (d := (some 34)) (v := ?_) rfl rfl (by kernel_rfl) (by kernel_rfl) (by kernel_rfl) (fun _ _ _ h => h) (Or.inl ⟨by rfl, ?_⟩) hHeld ?_; rotate_left 1; focus ((intro w hSw; (try dsimp only at hSw); first | (go_simp; done) | (go_simp; with_reducible rfl)); done); (try simp only [Act.put, List.setIfInBounds_toArray, List.set_cons_zero, List.set_cons_succ])))
        refine wpAnyH_ready (rs := [8]) (by kernel_rfl) (by simp) ?_
        refine AllReadyH.cons (o := _) rfl (fun K hK => ?_) AllReadyH.nil
        go_simp
        obtain ⟨gR, hgR⟩ : ∃ g_, g_ = V1_2.heap.size := ⟨_, rfl⟩
        have kR := blk_new V1_2 (.cells #[.int .i64 0, .int .i64 0, .string ⟨#[]⟩, .slice none 0 0, .slice none 0 0] 25)
        have hb := below_alloc1 V1_2 (.cells #[.int .i64 0, .int .i64 0, .string ⟨#[]⟩, .slice none 0 0, .slice none 0 0] 25)
        have lgR : w3.heap.size ≤ gR := by have := (And.left hHeld).size; omega
        (try go_wp2_with fail)
        refine hK.out _ _ (and_of (fun hB_ => ⟨cell_up hB_ Tc0, cell_up hB_ Tc1, cell_up hB_ Tc2, cell_up hB_ Tc3, cell_up hB_ Tc4⟩) (chain (And.left hHeld) hb)) ?_
        clear hHeld hK K
        intro hHeld
        (try simp only [Act.put, List.setIfInBounds_toArray, List.set_cons_zero, List.set_cons_succ])
        replace hL := hL.ag
        replace hu := hu.ag
        rw [← hgR] at kR hL hu ⊢
        clear hgR
        replace hL := hL.below hb
        replace hu := hu.below hb
        generalize V1_2.alloc (.cells #[.int .i64 0, .int .i64 0, .string ⟨#[]⟩, .slice none 0 0, .slice none 0 0] 25) = V1_3 at *
        clear hb
        have fin_ := And.intro hHeld (And.intro hL (And.intro hu (And.intro kR (And.intro lgR (True.intro)))))
        revert fin_
        generalize V1_3 = v_0, LT = v_1, U3 = v_2, U4 = v_3, gR = v_4, lt = v_5, u3 = v_6, u4 = v_7
        revert v_0 v_1 v_2 v_3 v_4 v_5 v_6 v_7
        exact hmain.out
      focus
        go_simp
        obtain ⟨gR, hgR⟩ : ∃ g_, g_ = V1_1.heap.size := ⟨_, rfl⟩
        have kR := blk_new V1_1 (.cells #[.int .i64 0, .int .i64 0, .string ⟨#[]⟩, .slice none 0 0, .slice none 0 0] 25)
        have hb := below_alloc1 V1_1 (.cells #[.int .i64 0, .int .i64 0, .string ⟨#[]⟩, .slice none 0 0, .slice none 0 0] 25)
        have lgR : w3.heap.size ≤ gR := by have := (And.left hHeld).size; omega
        (try go_wp2_with fail)
        refine hK.out _ _ (and_of (fun hB_ => ⟨cell_up hB_ Tc0, cell_up hB_ Tc1, cell_up hB_ Tc2, cell_up hB_ Tc3, cell_up hB_ Tc4⟩) (chain (And.left hHeld) hb)) ?_
        clear hHeld hK K
        intro hHeld
        (try simp only [Act.put, List.setIfInBounds_toArray, List.set_cons_zero, List.set_cons_succ])
        replace hL := hL.ag
        rw [← hgR] at kR hL ⊢
        clear hgR
        replace hL := hL.below hb
        generalize V1_1.alloc (.cells #[.int .i64 0, .int .i64 0, .string ⟨#[]⟩, .slice none 0 0, .slice none 0 0] 25) = V1_4 at *
        clear hb
        refine wpAnyH_ready (rs := [4]) (by kernel_rfl) (by simp) ?_
        refine AllReadyH.cons (o := _) rfl (fun K hK => ?_) AllReadyH.nil
        go_simp
        go_at_call 26
        refine (COg.out (blk_lt kR) hL (ht.gg (And.left hHeld) lgR)).mono ?_
        rintro e_ V1_5 ⟨U3, u3, U4, u4, rfl, hu, hb⟩
        (try go_wp2_with fail)
        refine hK.out _ _ (and_of (fun hB_ => ⟨cell_up hB_ Tc0, cell_up hB_ Tc1, cell_up hB_ Tc2, cell_up hB_ Tc3, cell_up hB_ Tc4⟩) (chain (And.left hHeld) hb)) ?_
        clear hHeld hK K
        intro hHeld
        (try simp only [Act.put, List.setIfInBounds_toArray, List.set_cons_zero, List.set_cons_succ])
        replace hL := hL.below hb
        replace kR := blk_below kR hb
        clear hb
        (first | (refine take_held (i := 5) (d := (some 27)) (v := ?_) rfl rfl (by kernel_rfl) (by kernel_rfl) (by kernel_rfl) (fun _ _ _ h => h) (Or.inl ⟨by rfl, ?_⟩) hHeld ?_; rotate_left 1; focus ((intro w hSw; (try dsimp only at hSw); first | (go_simp; done) | (go_simp; with_reducible rfl)); done); (try simp only [Act.put, List.setIfInBounds_toArray, List.set_cons_zero, List.set_cons_succ])))
        (first | (refine take_held (i := 6) (d := (some 33)) (v := ?_) rfl rfl (by kernel_rfl) (by kernel_rfl) (by kernel_rfl) (fun _ _ _ h => h) (Or.inl ⟨by rfl, ?_⟩) hHeld ?_; rotate_left 1; focus ((intro w hSw; (try dsimp only at hSw); first | (go_simp; done) | (go_simp; with_reducible rfl)); done); (try simp only [Act.put, List.setIfInBounds_toArray, List.set_cons_zero, List.set_cons_succ])))
        (first | (refine take_held (i := 7) (d := (some 34)) (v := ?_) rfl rfl (by kernel_rfl) (by kernel_rfl) (by kernel_rfl) (fun _ _ _ h => h) (Or.inl ⟨by rfl, ?_⟩) hHeld ?_; rotate_left 1; focus ((intro w hSw; (try dsimp only at hSw); first | (go_simp; done) | (go_simp; with_reducible rfl)); done); (try simp only [Act.put, List.setIfInBounds_toArray, List.set_cons_zero, List.set_cons_succ])))
        have fin_ := And.intro hHeld (And.intro hL (And.intro hu (And.intro kR (And.intro lgR (True.intro)))))
        revert fin_
        generalize V1_5 = v_0, LT = v_1, U3 = v_2, U4 = v_3, gR = v_4, lt = v_5, u3 = v_6, u4 = v_7
        revert v_0 v_1 v_2 v_3 v_4 v_5 v_6 v_7
        exact hmain.out
    focus
      go_simp
      obtain ⟨gR, hgR⟩ : ∃ g_, g_ = V1_0.heap.size := ⟨_, rfl⟩
      have kR := blk_new V1_0 (.cells #[.int .i64 0, .int .i64 0, .string ⟨#[]⟩, .slice none 0 0, .slice none 0 0] 25)
      have hb := below_alloc1 V1_0 (.cells #[.int .i64 0, .int .i64 0, .string ⟨#[]⟩, .slice none 0 0, .slice none 0 0] 25)
      have lgR : w3.heap.size ≤ gR := by have := (And.left hHeld).size; omega
      (try go_wp2_with fail)
      refine hK.out _ _ (and_of (fun hB_ => ⟨cell_up hB_ Tc0, cell_up hB_ Tc1, cell_up hB_ Tc2, cell_up hB_ Tc3, cell_up hB_ Tc4⟩) (chain (And.left hHeld) hb)) ?_
      clear hHeld hK K
      intro hHeld
      (try simp only [Act.put, List.setIfInBounds_toArray, List.set_cons_zero, List.set_cons_succ])
      rw [← hgR] at kR ⊢
      clear hgR
      generalize V1_0.alloc (.cells #[.int .i64 0, .int .i64 0, .string ⟨#[]⟩, .slice none 0 0, .slice none 0 0] 25) = V1_6 at *
      clear hb
      refine wpAnyH_ready (rs := [3]) (by kernel_rfl) (by simp) ?_
      refine AllReadyH.cons (o := _) rfl (fun K hK => ?_) AllReadyH.nil
      go_simp
      go_at_call 27
      refine (CTg.out (blk_lt kR) (hM.gg (And.left hHeld) lgR)).mono ?_
      rintro e_ V1_7 ⟨LT, lt, rfl, hL, hb⟩
      (try go_wp2_with fail)
      refine hK.out _ _ (and_of (fun hB_ => ⟨cell_up hB_ Tc0, cell_up hB_ Tc1, cell_up hB_ Tc2, cell_up hB_ Tc3, cell_up hB_ Tc4⟩) (chain (And.left hHeld) hb)) ?_
      clear hHeld hK K
      intro hHeld
      (try simp only [Act.put, List.setIfInBounds_toArray, List.set_cons_zero, List.set_cons_succ])
      replace kR := blk_below kR hb
      clear hb
      refine wpAnyH_ready (rs := [4]) (by kernel_rfl) (by simp) ?_
      refine AllReadyH.cons (o := _) rfl (fun K hK => ?_) AllReadyH.nil
      go_simp
      go_at_call 26
      refine (COg.out (blk_lt kR) hL (ht.gg (And.left hHeld) lgR)).mono ?_
      rintro e_ V1_8 ⟨U3, u3, U4, u4, rfl, hu, hb⟩
      (try go_wp2_with fail)
      refine hK.out _ _ (and_of (fun hB_ => ⟨cell_up hB_ Tc0, cell_up hB_ Tc1, cell_up hB_ Tc2, cell_up hB_ Tc3, cell_up hB_ Tc4⟩) (chain (And.left hHeld) hb)) ?_
      clear hHeld hK K
      intro hHeld
      (try simp only [Act.put, List.setIfInBounds_toArray, List.set_cons_zero, List.set_cons_succ])
      replace kR := blk_below kR hb
      replace hL := hL.below hb
      clear hb
      (first | (refine take_held (i := 5) (d := (some 27)) (v := ?_) rfl rfl (by kernel_rfl) (by kernel_rfl) (by kernel_rfl) (fun _ _ _ h => h) (Or.inl ⟨by rfl, ?_⟩) hHeld ?_; rotate_left 1; focus ((intro w hSw; (try dsimp only at hSw); first | (go_simp; done) | (go_simp; with_reducible rfl)); done); (try simp only [Act.put, List.setIfInBounds_toArray, List.set_cons_zero, List.set_cons_succ])))
      (first | (refine take_held (i := 6) (d := (some 33)) (v := ?_) rfl rfl (by kernel_rfl) (by kernel_rfl) (by kernel_rfl) (fun _ _ _ h => h) (Or.inl ⟨by rfl, ?_⟩) hHeld ?_; rotate_left 1; focus ((intro w hSw; (try dsimp only at hSw); first | (go_simp; done) | (go_simp; with_reducible rfl)); done); (try simp only [Act.put, List.setIfInBounds_toArray, List.set_cons_zero, List.set_cons_succ])))
      (first | (refine take_held (i := 7) (d := (some 34)) (v := ?_) rfl rfl (by kernel_rfl) (by kernel_rfl) (by kernel_rfl) (fun _ _ _ h => h) (Or.inl ⟨by rfl, ?_⟩) hHeld ?_; rotate_left 1; focus ((intro w hSw; (try dsimp only at hSw); first | (go_simp; done) | (go_simp; with_reducible rfl)); done); (try simp only [Act.put, List.setIfInBounds_toArray, List.set_cons_zero, List.set_cons_succ])))
      have fin_ := And.intro hHeld (And.intro hL (And.intro hu (And.intro kR (And.intro lgR (True.intro)))))
      revert fin_
      generalize V1_8 = v_0, LT = v_1, U3 = v_2, U4 = v_3, gR = v_4, lt = v_5, u3 = v_6, u4 = v_7
      revert v_0 v_1 v_2 v_3 v_4 v_5 v_6 v_7
      exact hmain.out
  case cont1 =>
    intro V1 LT U3 U4 gR lt u3 u4 fin_
    obtain ⟨hHeld, hL, hu, kR, lgR, _⟩ := fin_
    have bx_ := five kR
    obtain ⟨⟨x0_, x1_, x2_, x3_, x4_⟩, ⟨y0_, y1_, y2_, y3_, y4_⟩, z_⟩ := bx_
    refine wpAnyH_ready (rs := [9]) (by kernel_rfl) (by simp) ?_
    refine AllReadyH.cons (o := _) rfl (fun K hK => ?_) AllReadyH.nil
    go_simp
    (try go_wp2_with fail)
    refine hK.out _ _ (and_of (fun hB_ => ⟨cell_up hB_ Tc0, cell_up hB_ Tc1, cell_up hB_ Tc2, cell_up hB_ Tc3, cell_up hB_ Tc4⟩) (below_stored (And.left hHeld) lgR _ _ _ _ _)) ?_
    clear hHeld hK K x0_ x1_ x2_ x3_ x4_ y0_ y1_ y2_ y3_ y4_ z_
    intro hHeld
    (try simp only [Act.put, List.setIfInBounds_toArray, List.set_cons_zero, List.set_cons_succ])
    replace kR := stored kR (.int .i64 u.f0) (.int .i64 u.f1) (.string u.f2) (.slice U3 u.f3.length u3) (.slice U4 u.f4.length u4)
    replace hL := hL.stored (.int .i64 u.f0) (.int .i64 u.f1) (.string u.f2) (.slice U3 u.f3.length u3) (.slice U4 u.f4.length u4)
    replace hu := hu.stored (.int .i64 u.f0) (.int .i64 u.f1) (.string u.f2) (.slice U3 u.f3.length u3) (.slice U4 u.f4.length u4)
    generalize World.setCell (World.setCell (World.setCell (World.setCell (World.setCell V1 _ _) _ _) _ _) _ _) _ _ = V1_9 at hHeld kR hL hu ⊢
    (first | (refine take_held (i := 10) (d := (some 10)) (v := ?_) rfl rfl (by kernel_rfl) (by kernel_rfl) (by kernel_rfl) (fun _ _ _ h => h) (Or.inl ⟨by rfl, ?_⟩) hHeld ?_; rotate_left 1; focus ((intro w hSw; (try dsimp only at hSw); first | (go_simp; done) | (go_simp; with_reducible rfl)); done); (try simp only [Act.put, List.setIfInBounds_toArray, List.set_cons_zero, List.set_cons_succ])))
    refine wpAnyH_done (by kernel_rfl) ?_ _
    have bW_ := And.left hHeld
    clear hHeld
    replace hu := RTg.rt hu
    clear hL
    clear Tc0 Tc1 Tc2 Tc3 Tc4 Tf0 Tf1 Tf2 Tf3 Tf4 Tl
    have b_6 := chain b_4 bW_
    replace kT := blk_below kT bW_
    replace ht := ht.below bW_
    replace hN := hN.below bW_
    replace hM := hM.below bW_
    clear b_4
    clear bW_
    obtain ⟨⟨Tc0, Tc1, Tc2, Tc3, Tc4⟩, ⟨Tf0, Tf1, Tf2, Tf3, Tf4⟩, Tl⟩ := five kT
    obtain ⟨⟨Rc0, Rc1, Rc2, Rc3, Rc4⟩, ⟨Rf0, Rf1, Rf2, Rf3, Rf4⟩, Rl⟩ := five kR
    go_wp2_with fail
    refine with_cont (G := ?G2) ?cont2 fun hmain => ?reg2
    case reg2 =>
      refine wp_region_held_drew (S := (fun w' => Below V1_9.heap.size V1_9 w' ∧ w'.cell? ⟨w.heap.size, 0, none⟩ = some (.int .i64 t.f0) ∧ w'.cell? ⟨w.heap.size, 1, none⟩ = some (.int .i64 t.f1) ∧ w'.cell? ⟨w.heap.size, 2, none⟩ = some (.string t.f2) ∧ w'.cell? ⟨w.heap.size, 3, none⟩ = some (.slice A3 t.f3.length c3) ∧ w'.cell? ⟨w.heap.size, 4, none⟩ = some (.slice A4 t.f4.length c4))) (by kernel_rfl) ?_ (fun hHeld => ?_)
      · exact (and_of (fun hB_ => ⟨cell_up hB_ Tc0, cell_up hB_ Tc1, cell_up hB_ Tc2, cell_up hB_ Tc3, cell_up hB_ Tc4⟩) ((Below.refl _ _).drew))
      have bd_ : Below V1_9.heap.size V1_9 V1_9.drew := (Below.refl _ _).drew
      generalize V1_9.drew = V2_0 at hHeld bd_ ⊢
      clear bd_
      (first | (refine take_held (i := 0) (d := (some 36)) (v := ?_) rfl rfl (by kernel_rfl) (by kernel_rfl) (by kernel_rfl) (fun _ _ _ h => h) (Or.inl ⟨by rfl, ?_⟩) hHeld ?_; rotate_left 1; focus ((intro w hSw; (try dsimp only at hSw); first | (go_simp; done) | (go_simp; with_reducible rfl)); done); (try simp only [Act.put, List.setIfInBounds_toArray, List.set_cons_zero, List.set_cons_succ])))
      (first | (refine take_held (i := 1) (d := (some 37)) (v := ?_) rfl rfl (by kernel_rfl) (by kernel_rfl) (by kernel_rfl) (fun _ _ _ h => h) (Or.inl ⟨by rfl, ?_⟩) hHeld ?_; rotate_left 1; focus ((intro w hSw; (try dsimp only at hSw); first | (go_simp; done) | (go_simp; with_reducible rfl)); done); (try simp only [Act.put, List.setIfInBounds_toArray, List.set_cons_zero, List.set_cons_succ])))
      (first | (refine take_held (i := 2) (d := (some 38)) (v := ?_) rfl rfl (by kernel_rfl) (by kernel_rfl) (by kernel_rfl) (fun _ _ _ h => h) (Or.inl ⟨by rfl, ?_⟩) hHeld ?_; rotate_left 1; focus ((intro w hSw; (try dsimp only at hSw); first | (go_simp; done) | (go_simp; with_reducible rfl)); done); (try simp only [Act.put, List.setIfInBounds_toArray, List.set_cons_zero, List.set_cons_succ])))
      refine wpAnyH_ready (rs := [3, 8]) (by kernel_rfl) (by simp) ?_
      refine AllReadyH.cons (o := _) rfl (fun K hK => ?_) (AllReadyH.cons (o := _) rfl (fun K hK => ?_) AllReadyH.nil)
      focus
        go_simp
        go_at_call 27
        refine (CT.out (hM.below (And.left hHeld))).mono ?_
        rintro e_ V2_1 ⟨LT, lt, rfl, hL, hb⟩
        (try go_wp2_with fail)
        refine hK.out _ _ (and_of (fun hB_ => ⟨cell_up hB_ Tc0, cell_up hB_ Tc1, cell_up hB_ Tc2, cell_up hB_ Tc3, cell_up hB_ Tc4⟩) (chain (And.left hHeld) hb)) ?_
        clear hHeld hK K
        intro hHeld
        (try simp only [Act.put, List.setIfInBounds_toArray, List.set_cons_zero, List.set_cons_succ])
        clear hb
        refine wpAnyH_ready (rs := [4, 8]) (by kernel_rfl) (by simp) ?_
        refine AllReadyH.cons (o := _) rfl (fun K hK => ?_) (AllReadyH.cons (o := _) rfl (fun K hK => ?_) AllReadyH.nil)
        focus
          go_simp
          go_at_call 28
          refine (CR.out hL (ht.below (And.left hHeld))).mono ?_
          rintro e_ V2_2 ⟨V3, v3, V4, v4, rfl, hv, hb⟩
          (try go_wp2_with fail)
          refine hK.out _ _ (and_of (fun hB_ => ⟨cell_up hB_ Tc0, cell_up hB_ Tc1, cell_up hB_ Tc2, cell_up hB_ Tc3, cell_up hB_ Tc4⟩) (chain (And.left hHeld) hb)) ?_
          clear hHeld hK K
          intro hHeld
          (try simp only [Act.put, List.setIfInBounds_toArray, List.set_cons_zero, List.set_cons_succ])
          replace hL := hL.below hb
          clear hb
          (first | (refine take_held (i := 5) (d := (some 35)) (v := ?_) rfl rfl (by kernel_rfl) (by kernel_rfl) (by kernel_rfl) (fun _ _ _ h => h) (Or.inl ⟨by rfl, ?_⟩) hHeld ?_; rotate_left 1; focus ((intro w hSw; (try dsimp only at hSw); first | (go_simp; done) | (go_simp; with_reducible rfl)); done); (try simp only [Act.put, List.setIfInBounds_toArray, List.set_cons_zero, List.set_cons_succ])))
          (first | (refine take_held (i := 6) (d := (some 41)) (v := ?_) rfl rfl (by kernel_rfl) (by kernel_rfl) (by kernel_rfl) (fun _ _ _ h => h) (Or.inl ⟨by rfl, ?_⟩) hHeld ?_; rotate_left 1; focus ((intro w hSw; (try dsimp only at hSw); first | (go_simp; done) | (go_simp; with_reducible rfl)); done); (try simp only [Act.put, List.setIfInBounds_toArray, List.set_cons_zero, List.set_cons_succ])))
          (first | (refine take_held (i := 7) (d := (some 42)) (v := ?_) rfl rfl (by kernel_rfl) (by kernel_rfl) (by kernel_rfl) (fun _ _ _ h => h) (Or.inl ⟨by rfl, ?_⟩) hHeld ?_; rotate_left 1; focus ((intro w hSw; (try dsimp only at hSw); first | (go_simp; done) | (go_simp; with_reducible rfl)); done); (try simp only [Act.put, List.setIfInBounds_toArray, List.set_cons_zero, List.set_cons_succ])))
          refine wpAnyH_ready (rs := [8]) (by kernel_rfl) (by simp) ?_
          refine AllReadyH.cons (o := _) rfl (fun K hK => ?_) AllReadyH.nil
          go_simp
          obtain ⟨gQ, hgQ⟩ : ∃ g_, g_ = V2_2.heap.size := ⟨_, rfl⟩
          have kQ := blk_new V2_2 (.cells #[.int .i64 0, .int .i64 0, .string ⟨#[]⟩, .slice none 0 0, .slice none 0 0] 25)
          have hb := below_alloc1 V2_2 (.cells #[.int .i64 0, .int .i64 0, .string ⟨#[]⟩, .slice none 0 0, .slice none 0 0] 25)
          have lgQ : V1_9.heap.size ≤ gQ := by have := (And.left hHeld).size; omega
          (try go_wp2_with fail)
          refine hK.out _ _ (and_of (fun hB_ => ⟨cell_up hB_ Tc0, cell_up hB_ Tc1, cell_up hB_ Tc2, cell_up hB_ Tc3, cell_up hB_ Tc4⟩) (chain (And.left hHeld) hb)) ?_
          clear hHeld hK K
          intro hHeld
          (try simp only [Act.put, List.setIfInBounds_toArray, List.set_cons_zero, List.set_cons_succ])
          replace hL := hL.ag
          replace hv := hv.ag
          rw [← hgQ] at kQ hL hv ⊢
          clear hgQ
          replace hL := hL.below hb
          replace hv := hv.below hb
          generalize V2_2.alloc (.cells #[.int .i64 0, .int .i64 0, .string ⟨#[]⟩, .slice none 0 0, .slice none 0 0] 25) = V2_3 at *
          clear hb
          have fin_ := And.intro hHeld (And.intro hL (And.intro hv (And.intro kQ (And.intro lgQ (True.intro)))))
          revert fin_
          generalize V2_3 = v_0, LT = v_1, V3 = v_2, V4 = v_3, gQ = v_4, lt = v_5, v3 = v_6, v4 = v_7
          revert v_0 v_1 v_2 v_3 v_4 v_5 v_6 v_7
          exact hmain.out
        focus
          go_simp
          obtain ⟨gQ, hgQ⟩ : ∃ g_, g_ = V2_1.heap.size := ⟨_, rfl⟩
          have kQ := blk_new V2_1 (.cells #[.int .i64 0, .int .i64 0, .string ⟨#[]⟩, .slice none 0 0, .slice none 0 0] 25)
          have hb := below_alloc1 V2_1 (.cells #[.int .i64 0, .int .i64 0, .string ⟨#[]⟩, .slice none 0 0, .slice none 0 0] 25)
          have lgQ : V1_9.heap.size ≤ gQ := by have := (And.left hHeld).size; omega
          (try go_wp2_with fail)
          refine hK.out _ _ (and_of (fun hB_ => ⟨cell_up hB_ Tc0, cell_up hB_ Tc1, cell_up hB_ Tc2, cell_up hB_ Tc3, cell_up hB_ Tc4⟩) (chain (And.left hHeld) hb)) ?_
          clear hHeld hK K
          intro hHeld
          (try simp only [Act.put, List.setIfInBounds_toArray, List.set_cons_zero, List.set_cons_succ])
          replace hL := hL.ag
          rw [← hgQ] at kQ hL ⊢
          clear hgQ
          replace hL := hL.below hb
          generalize V2_1.alloc (.cells #[.int .i64 0, .int .i64 0, .string ⟨#[]⟩, .slice none 0 0, .slice none 0 0] 25) = V2_4 at *
          clear hb
          refine wpAnyH_ready (rs := [4]) (by kernel_rfl) (by simp) ?_
          refine AllReadyH.cons (o := _) rfl (fun K hK => ?_) AllReadyH.nil
          go_simp
          go_at_call 28
          refine (CRg.out (blk_lt kQ) hL (ht.gg (And.left hHeld) lgQ)).mono ?_
          rintro e_ V2_5 ⟨V3, v3, V4, v4, rfl, hv, hb⟩
          (try go_wp2_with fail)
          refine hK.out _ _ (and_of (fun hB_ => ⟨cell_up hB_ Tc0, cell_up hB_ Tc1, cell_up hB_ Tc2, cell_up hB_ Tc3, cell_up hB_ Tc4⟩) (chain (And.left hHeld) hb)) ?_
          clear hHeld hK K
          intro hHeld
          (try simp only [Act.put, List.setIfInBounds_toArray, List.set_cons_zero, List.set_cons_succ])
          replace hL := hL.below hb
          replace kQ := blk_below kQ hb
          clear hb
          (first | (refine take_held (i := 5) (d := (some 35)) (v := ?_) rfl rfl (by kernel_rfl) (by kernel_rfl) (by kernel_rfl) (fun _ _ _ h => h) (Or.inl ⟨by rfl, ?_⟩) hHeld ?_; rotate_left 1; focus ((intro w hSw; (try dsimp only at hSw); first | (go_simp; done) | (go_simp; with_reducible rfl)); done); (try simp only [Act.put, List.setIfInBounds_toArray, List.set_cons_zero, List.set_cons_succ])))
          (first | (refine take_held (i := 6) (d := (some 41)) (v := ?_) rfl rfl (by kernel_rfl) (by kernel_rfl) (by kernel_rfl) (fun _ _ _ h => h) (Or.inl ⟨by rfl, ?_⟩) hHeld ?_; rotate_left 1; focus ((intro w hSw; (try dsimp only at hSw); first | (go_simp; done) | (go_simp; with_reducible rfl)); done); (try simp only [Act.put, List.setIfInBounds_toArray, List.set_cons_zero, List.set_cons_succ])))
          (first | (refine take_held (i := 7) (d := (some 42)) (v := ?_) rfl rfl (by kernel_rfl) (by kernel_rfl) (by kernel_rfl) (fun _ _ _ h => h) (Or.inl ⟨by rfl, ?_⟩) hHeld ?_; rotate_left 1; focus ((intro w hSw; (try dsimp only at hSw); first | (go_simp; done) | (go_simp; with_reducible rfl)); done); (try simp only [Act.put, List.setIfInBounds_toArray, List.set_cons_zero, List.set_cons_succ])))
          have fin_ := And.intro hHeld (And.intro hL (And.intro hv (And.intro kQ (And.intro lgQ (True.intro)))))
          revert fin_
          generalize V2_5 = v_0, LT = v_1, V3 = v_2, V4 = v_3, gQ = v_4, lt = v_5, v3 = v_6, v4 = v_7
          revert v_0 v_1 v_2 v_3 v_4 v_5 v_6 v_7
          exact hmain.out
      focus
        go_simp
        obtain ⟨gQ, hgQ⟩ : ∃ g_, g_ = V2_0.heap.size := ⟨_, rfl⟩
        have kQ := blk_new V2_0 (.cells #[.int .i64 0, .int .i64 0, .string ⟨#[]⟩, .slice none 0 0, .slice none 0 0] 25)
        have hb := below_alloc1 V2_0 (.cells #[.int .i64 0, .int .i64 0, .string ⟨#[]⟩, .slice none 0 0, .slice none 0 0] 25)
        have lgQ : V1_9.heap.size ≤ gQ := by have := (And.left hHeld).size; omega
        (try go_wp2_with fail)
        refine hK.out _ _ (and_of (fun hB_ => ⟨cell_up hB_ Tc0, cell_up hB_ Tc1, cell_up hB_ Tc2, cell_up hB_ Tc3, cell_up hB_ Tc4⟩) (chain (And.left hHeld) hb)) ?_
        clear hHeld hK K
        intro hHeld
        (try simp only [Act.put, List.setIfInBounds_toArray, List.set_cons_zero, List.set_cons_succ])
        rw [← hgQ] at kQ ⊢
        clear hgQ
        generalize V2_0.alloc (.cells #[.int .i64 0, .int .i64 0, .string ⟨#[]⟩, .slice none 0 0, .slice none 0 0] 25) = V2_6 at *
        clear hb
        refine wpAnyH_ready (rs := [3]) (by kernel_rfl) (by simp) ?_
        refine AllReadyH.cons (o := _) rfl (fun K hK => ?_) AllReadyH.nil
        go_simp
        go_at_call 27
        refine (CTg.out (blk_lt kQ) (hM.gg (And.left hHeld) lgQ)).mono ?_
        rintro e_ V2_7 ⟨LT, lt, rfl, hL, hb⟩
        (try go_wp2_with fail)
        refine hK.out _ _ (and_of (fun hB_ => ⟨cell_up hB_ Tc0, cell_up hB_ Tc1, cell_up hB_ Tc2, cell_up hB_ Tc3, cell_up hB_ Tc4⟩) (chain (And.left hHeld) hb)) ?_
        clear hHeld hK K
        intro hHeld
        (try simp only [Act.put, List.setIfInBounds_toArray, List.set_cons_zero, List.set_cons_succ])
        replace kQ := blk_below kQ hb
        clear hb
        refine wpAnyH_ready (rs := [4]) (by kernel_rfl) (by simp) ?_
        refine AllReadyH.cons (o := _) rfl (fun K hK => ?_) AllReadyH.nil
        go_simp
        go_at_call 28
        refine (CRg.out (blk_lt kQ) hL (ht.gg (And.left hHeld) lgQ)).mono ?_
        rintro e_ V2_8 ⟨V3, v3, V4, v4, rfl, hv, hb⟩
        (try go_wp2_with fail)
        refine hK.out _ _ (and_of (fun hB_ => ⟨cell_up hB_ Tc0, cell_up hB_ Tc1, cell_up hB_ Tc2, cell_up hB_ Tc3, cell_up hB_ Tc4⟩) (chain (And.left hHeld) hb)) ?_
        clear hHeld hK K
        intro hHeld
        (try simp only [Act.put, List.setIfInBounds_toArray, List.set_cons_zero, List.set_cons_succ])
        replace kQ := blk_below kQ hb
        replace hL := hL.below hb
        clear hb
        (first | (refine take_held (i := 5) (d := (some 35)) (v := ?_) rfl rfl (by kernel_rfl) (by kernel_rfl) (by kernel_rfl) (fun _ _ _ h => h) (Or.inl ⟨by rfl, ?_⟩) hHeld ?_; rotate_left 1; focus ((intro w hSw; (try dsimp only at hSw); first | (go_simp; done) | (go_simp; with_reducible rfl)); done); (try simp only [Act.put, List.setIfInBounds_toArray, List.set_cons_zero, List.set_cons_succ])))
        (first | (refine take_held (i := 6) (d := (some 41)) (v := ?_) rfl rfl (by kernel_rfl) (by kernel_rfl) (by kernel_rfl) (fun _ _ _ h => h) (Or.inl ⟨by rfl, ?_⟩) hHeld ?_; rotate_left 1; focus ((intro w hSw; (try dsimp only at hSw); first | (go_simp; done) | (go_simp; with_reducible rfl)); done); (try simp only [Act.put, List.setIfInBounds_toArray, List.set_cons_zero, List.set_cons_succ])))
        (first | (refine take_held (i := 7) (d := (some 42)) (v := ?_) rfl rfl (by kernel_rfl) (by kernel_rfl) (by kernel_rfl) (fun _ _ _ h => h) (Or.inl ⟨by rfl, ?_⟩) hHeld ?_; rotate_left 1; focus ((intro w hSw; (try dsimp only at hSw); first | (go_simp; done) | (go_simp; with_reducible rfl)); done); (try simp only [Act.put, List.setIfInBounds_toArray, List.set_cons_zero, List.set_cons_succ])))
        have fin_ := And.intro hHeld (And.intro hL (And.intro hv (And.intro kQ (And.intro lgQ (True.intro)))))
        revert fin_
        generalize V2_8 = v_0, LT = v_1, V3 = v_2, V4 = v_3, gQ = v_4, lt = v_5, v3 = v_6, v4 = v_7
        revert v_0 v_1 v_2 v_3 v_4 v_5 v_6 v_7
        exact hmain.out
    case cont2 =>
      intro V2 LT V3 V4 gQ lt v3 v4 fin_
      obtain ⟨hHeld, hL, hv, kQ, lgQ, _⟩ := fin_
      have bx_ := five kQ
      obtain ⟨⟨x0_, x1_, x2_, x3_, x4_⟩, ⟨y0_, y1_, y2_, y3_, y4_⟩, z_⟩ := bx_
      refine wpAnyH_ready (rs := [9]) (by kernel_rfl) (by simp) ?_
      refine AllReadyH.cons (o := _) rfl (fun K hK => ?_) AllReadyH.nil
      go_simp
      (try go_wp2_with fail)
      refine hK.out _ _ (and_of (fun hB_ => ⟨cell_up hB_ Tc0, cell_up hB_ Tc1, cell_up hB_ Tc2, cell_up hB_ Tc3, cell_up hB_ Tc4⟩) (below_stored (And.left hHeld) lgQ _ _ _ _ _)) ?_
      clear hHeld hK K x0_ x1_ x2_ x3_ x4_ y0_ y1_ y2_ y3_ y4_ z_
      intro hHeld
      (try simp only [Act.put, List.setIfInBounds_toArray, List.set_cons_zero, List.set_cons_succ])
      replace kQ := stored kQ (.int .i64 u.f0) (.int .i64 u.f1) (.string u.f2) (.slice V3 u.f3.length v3) (.slice V4 u.f4.length v4)
      replace hL := hL.stored (.int .i64 u.f0) (.int .i64 u.f1) (.string u.f2) (.slice V3 u.f3.length v3) (.slice V4 u.f4.length v4)
      replace hv := hv.stored (.int .i64 u.f0) (.int .i64 u.f1) (.string u.f2) (.slice V3 u.f3.length v3) (.slice V4 u.f4.length v4)
      generalize World.setCell (World.setCell (World.setCell (World.setCell (World.setCell V2 _ _) _ _) _ _) _ _) _ _ = V2_9 at hHeld kQ hL hv ⊢
      (first | (refine take_held (i := 10) (d := (some 12)) (v := ?_) rfl rfl (by kernel_rfl) (by kernel_rfl) (by kernel_rfl) (fun _ _ _ h => h) (Or.inl ⟨by rfl, ?_⟩) hHeld ?_; rotate_left 1; focus ((intro w hSw; (try dsimp only at hSw); first | (go_simp; done) | (go_simp; with_reducible rfl)); done); (try simp only [Act.put, List.setIfInBounds_toArray, List.set_cons_zero, List.set_cons_succ])))
      refine wpAnyH_done (by kernel_rfl) ?_ _
      have bW_ := And.left hHeld
      clear hHeld
      replace hv := RTg.rt hv
      clear hL
      clear Tc0 Tc1 Tc2 Tc3 Tc4 Tf0 Tf1 Tf2 Tf3 Tf4 Tl Rc0 Rc1 Rc2 Rc3 Rc4 Rf0 Rf1 Rf2 Rf3 Rf4 Rl
      have b_7 := chain b_6 bW_
      replace kT := blk_below kT bW_
      replace kR := blk_below kR bW_
      replace ht := ht.below bW_
      replace hN := hN.below bW_
      replace hM := hM.below bW_
      replace hu := hu.below bW_
      clear b_6
      clear bW_
      obtain ⟨⟨Tc0, Tc1, Tc2, Tc3, Tc4⟩, ⟨Tf0, Tf1, Tf2, Tf3, Tf4⟩, Tl⟩ := five kT
      obtain ⟨⟨Rc0, Rc1, Rc2, Rc3, Rc4⟩, ⟨Rf0, Rf1, Rf2, Rf3, Rf4⟩, Rl⟩ := five kR
      obtain ⟨⟨Qc0, Qc1, Qc2, Qc3, Qc4⟩, ⟨Qf0, Qf1, Qf2, Qf3, Qf4⟩, Ql⟩ := five kQ
      go_wp2_with fail
      refine wp_region_held_drew (S := (fun w' => Below V2_9.heap.size V2_9 w' ∧ w'.cell? ⟨w.heap.size, 0, none⟩ = some (.int .i64 t.f0) ∧ w'.cell? ⟨w.heap.size, 1, none⟩ = some (.int .i64 t.f1) ∧ w'.cell? ⟨w.heap.size, 2, none⟩ = some (.string t.f2) ∧ w'.cell? ⟨w.heap.size, 3, none⟩ = some (.slice A3 t.f3.length c3) ∧ w'.cell? ⟨w.heap.size, 4, none⟩ = some (.slice A4 t.f4.length c4) ∧ w'.cell? ⟨gR, 0, none⟩ = some (.int .i64 u.f0) ∧ w'.cell? ⟨gR, 1, none⟩ = some (.int .i64 u.f1) ∧ w'.cell? ⟨gR, 2, none⟩ = some (.string u.f2) ∧ w'.cell? ⟨gR, 3, none⟩ = some (.slice U3 u.f3.length u3) ∧ w'.cell? ⟨gR, 4, none⟩ = some (.slice U4 u.f4.length u4) ∧ w'.cell? ⟨gQ, 0, none⟩ = some (.int .i64 u.f0) ∧ w'.cell? ⟨gQ, 1, none⟩ = some (.int .i64 u.f1) ∧ w'.cell? ⟨gQ, 2, none⟩ = some (.string u.f2) ∧ w'.cell? ⟨gQ, 3, none⟩ = some (.slice V3 u.f3.length v3) ∧ w'.cell? ⟨gQ, 4, none⟩ = some (.slice V4 u.f4.length v4))) (by kernel_rfl) ?_ (fun hHeld => ?_)
      · exact (and_of (fun hB_ => ⟨cell_up hB_ Tc0, cell_up hB_ Tc1, cell_up hB_ Tc2, cell_up hB_ Tc3, cell_up hB_ Tc4, cell_up hB_ Rc0, cell_up hB_ Rc1, cell_up hB_ Rc2, cell_up hB_ Rc3, cell_up hB_ Rc4, cell_up hB_ Qc0, cell_up hB_ Qc1, cell_up hB_ Qc2, cell_up hB_ Qc3, cell_up hB_ Qc4⟩) ((Below.refl _ _).drew))
      have bd_ : Below V2_9.heap.size V2_9 V2_9.drew := (Below.refl _ _).drew
      generalize V2_9.drew = V3_0 at hHeld bd_ ⊢
      clear bd_
      (first | (refine take_held (i := 0) (d := (some 43)) (v := ?_) rfl rfl (by kernel_rfl) (by kernel_rfl) (by kernel_rfl) (fun _ _ _ h => h) (Or.inl ⟨by rfl, ?_⟩) hHeld ?_; rotate_left 1; focus ((intro w hSw; (try dsimp only at hSw); first | (go_simp; done) | (go_simp; with_reducible rfl)); done); (try simp only [Act.put, List.setIfInBounds_toArray, List.set_cons_zero, List.set_cons_succ])))
      (first | (refine take_held (i := 1) (d := (some 44)) (v := ?_) rfl rfl (by kernel_rfl) (by kernel_rfl) (by kernel_rfl) (fun _ _ _ h => h) (Or.inl ⟨by rfl, ?_⟩) hHeld ?_; rotate_left 1; focus ((intro w hSw; (try dsimp only at hSw); first | (go_simp; done) | (go_simp; with_reducible rfl)); done); (try simp only [Act.put, List.setIfInBounds_toArray, List.set_cons_zero, List.set_cons_succ])))
      (first | (refine take_held (i := 2) (d := (some 45)) (v := ?_) rfl rfl (by kernel_rfl) (by kernel_rfl) (by kernel_rfl) (fun _ _ _ h => h) (Or.inl ⟨by rfl, ?_⟩) hHeld ?_; rotate_left 1; focus ((intro w hSw; (try dsimp only at hSw); first | (go_simp; done) | (go_simp; with_reducible rfl)); done); (try simp only [Act.put, List.setIfInBounds_toArray, List.set_cons_zero, List.set_cons_succ])))
      (first | (refine take_held (i := 4) (d := (some 47)) (v := ?_) rfl rfl (by kernel_rfl) (by kernel_rfl) (by kernel_rfl) (fun _ _ _ h => h) (Or.inl ⟨by rfl, ?_⟩) hHeld ?_; rotate_left 1; focus ((intro w hSw; (try dsimp only at hSw); first | (go_simp; done) | (go_simp; with_reducible rfl)); done); (try simp only [Act.put, List.setIfInBounds_toArray, List.set_cons_zero, List.set_cons_succ])))
      (first | (refine take_held (i := 5) (d := (some 48)) (v := ?_) rfl rfl (by kernel_rfl) (by kernel_rfl) (by kernel_rfl) (fun _ _ _ h => h) (Or.inl ⟨by rfl, ?_⟩) hHeld ?_; rotate_left 1; focus ((intro w hSw; (try dsimp only at hSw); first | (go_simp; done) | (go_simp; with_reducible rfl)); done); (try simp only [Act.put, List.setIfInBounds_toArray, List.set_cons_zero, List.set_cons_succ])))
      (first | (refine take_held (i := 6) (d := (some 49)) (v := ?_) rfl rfl (by kernel_rfl) (by kernel_rfl) (by kernel_rfl) (fun _ _ _ h => h) (Or.inl ⟨by rfl, ?_⟩) hHeld ?_; rotate_left 1; focus ((intro w hSw; (try dsimp only at hSw); first | (go_simp; done) | (go_simp; with_reducible rfl)); done); (try simp only [Act.put, List.setIfInBounds_toArray, List.set_cons_zero, List.set_cons_succ])))
      refine wpAnyH_ready (rs := [3]) (by kernel_rfl) (by simp) ?_
      refine AllReadyH.cons (o := _) rfl (fun K hK => ?_) AllReadyH.nil
      go_simp
      go_at_call 29
      refine (CS.out (hN.below (And.left hHeld)) (ht.below (And.left hHeld))).mono ?_
      rintro e_ V3_1 ⟨S3, s3, S4, s4, rfl, hs, hb⟩
      (try go_wp2_with fail)
      refine hK.out _ _ (and_of (fun hB_ => ⟨cell_up hB_ Tc0, cell_up hB_ Tc1, cell_up hB_ Tc2, cell_up hB_ Tc3, cell_up hB_ Tc4, cell_up hB_ Rc0, cell_up hB_ Rc1, cell_up hB_ Rc2, cell_up hB_ Rc3, cell_up hB_ Rc4, cell_up hB_ Qc0, cell_up hB_ Qc1, cell_up hB_ Qc2, cell_up hB_ Qc3, cell_up hB_ Qc4⟩) (chain (And.left hHeld) hb)) ?_
      clear hHeld hK K
      intro hHeld
      (try simp only [Act.put, List.setIfInBounds_toArray, List.set_cons_zero, List.set_cons_succ])
      clear hb
      refine wpAnyH_ready (rs := [7]) (by kernel_rfl) (by simp) ?_
      refine AllReadyH.cons (o := _) rfl (fun K hK => ?_) AllReadyH.nil
      go_simp
      go_at_call 30
      refine (CRS.out (hN.below (And.left hHeld)) (ht.below (And.left hHeld))).mono ?_
      rintro e_ V3_2 ⟨Q3, q3, Q4, q4, rfl, hq, hb⟩
      (try go_wp2_with fail)
      refine hK.out _ _ (and_of (fun hB_ => ⟨cell_up hB_ Tc0, cell_up hB_ Tc1, cell_up hB_ Tc2, cell_up hB_ Tc3, cell_up hB_ Tc4, cell_up hB_ Rc0, cell_up hB_ Rc1, cell_up hB_ Rc2, cell_up hB_ Rc3, cell_up hB_ Rc4, cell_up hB_ Qc0, cell_up hB_ Qc1, cell_up hB_ Qc2, cell_up hB_ Qc3, cell_up hB_ Qc4⟩) (chain (And.left hHeld) hb)) ?_
      clear hHeld hK K
      intro hHeld
      (try simp only [Act.put, List.setIfInBounds_toArray, List.set_cons_zero, List.set_cons_succ])
      replace hs := hs.below hb
      clear hb
      refine wpAnyH_ready (rs := [8]) (by kernel_rfl) (by simp) ?_
      refine AllReadyH.cons (o := _) rfl (fun K hK => ?_) AllReadyH.nil
      go_simp
      go_at_call 22
      refine (rsame_c oks _ hs hq).mono ?_
      rintro e_ V3_3 ⟨rfl, hb⟩
      rw [HSS.out]
      (try go_wp2_with fail)
      refine hK.out _ _ (and_of (fun hB_ => ⟨cell_up hB_ Tc0, cell_up hB_ Tc1, cell_up hB_ Tc2, cell_up hB_ Tc3, cell_up hB_ Tc4, cell_up hB_ Rc0, cell_up hB_ Rc1, cell_up hB_ Rc2, cell_up hB_ Rc3, cell_up hB_ Rc4, cell_up hB_ Qc0, cell_up hB_ Qc1, cell_up hB_ Qc2, cell_up hB_ Qc3, cell_up hB_ Qc4⟩) (chain (And.left hHeld) hb)) ?_
      clear hHeld hK K
      intro hHeld
      (try simp only [Act.put, List.setIfInBounds_toArray, List.set_cons_zero, List.set_cons_succ])
      replace hs := hs.below hb
      replace hq := hq.below hb
      clear hb
      (first | (refine take_held (i := 9) (d := (some 52)) (v := ?_) rfl rfl (by kernel_rfl) (by kernel_rfl) (by kernel_rfl) (fun _ _ _ h => h) (Or.inl ⟨by rfl, ?_⟩) hHeld ?_; rotate_left 1; focus ((intro w hSw; (try dsimp only at hSw); first | (go_simp; done) | (go_simp; with_reducible rfl)); done); (try simp only [Act.put, List.setIfInBounds_toArray, List.set_cons_zero, List.set_cons_succ])))
      (first | (refine take_held (i := 10) (d := (some 53)) (v := ?_) rfl rfl (by kernel_rfl) (by kernel_rfl) (by kernel_rfl) (fun _ _ _ h => h) (Or.inl ⟨by rfl, ?_⟩) hHeld ?_; rotate_left 1; focus ((intro w hSw; (try dsimp only at hSw); first | (go_simp; done) | (go_simp; with_reducible rfl)); done); (try simp only [Act.put, List.setIfInBounds_toArray, List.set_cons_zero, List.set_cons_succ])) | (refine take_held (i := 10) (d := (some 53)) (v := undef) rfl rfl (by kernel_rfl) (by kernel_rfl) (by kernel_rfl) (fun _ _ _ h => h) (Or.inr ⟨by rfl, rfl⟩) hHeld ?_; (try simp only [Act.put, List.setIfInBounds_toArray, List.set_cons_zero, List.set_cons_succ])))
      (first | (refine take_held (i := 11) (d := (some 54)) (v := ?_) rfl rfl (by kernel_rfl) (by kernel_rfl) (by kernel_rfl) (fun _ _ _ h => h) (Or.inl ⟨by rfl, ?_⟩) hHeld ?_; rotate_left 1; focus ((intro w hSw; (try dsimp only at hSw); first | (go_simp; done) | (go_simp; with_reducible rfl)); done); (try simp only [Act.put, List.setIfInBounds_toArray, List.set_cons_zero, List.set_cons_succ])) | (refine take_held (i := 11) (d := (some 54)) (v := undef) rfl rfl (by kernel_rfl) (by kernel_rfl) (by kernel_rfl) (fun _ _ _ h => h) (Or.inr ⟨by rfl, rfl⟩) hHeld ?_; (try simp only [Act.put, List.setIfInBounds_toArray, List.set_cons_zero, List.set_cons_succ])))
      refine wpAnyH_ready (rs := [12]) (by kernel_rfl) (by simp) ?_
      refine AllReadyH.cons (o := _) rfl (fun K hK => ?_) AllReadyH.nil
      go_simp
      go_at_call 22
      refine (rsame_c oku _ (hu.below (And.left hHeld)) (hv.below (And.left hHeld))).mono ?_
      rintro e_ V3_4 ⟨rfl, hb⟩
      rw [HSU.out]
      (try go_wp2_with fail)
      refine hK.out _ _ (and_of (fun hB_ => ⟨cell_up hB_ Tc0, cell_up hB_ Tc1, cell_up hB_ Tc2, cell_up hB_ Tc3, cell_up hB_ Tc4, cell_up hB_ Rc0, cell_up hB_ Rc1, cell_up hB_ Rc2, cell_up hB_ Rc3, cell_up hB_ Rc4, cell_up hB_ Qc0, cell_up hB_ Qc1, cell_up hB_ Qc2, cell_up hB_ Qc3, cell_up hB_ Qc4⟩) (chain (And.left hHeld) hb)) ?_
      clear hHeld hK K
      intro hHeld
      (try simp only [Act.put, List.setIfInBounds_toArray, List.set_cons_zero, List.set_cons_succ])
      replace hs := hs.below hb
      replace hq := hq.below hb
      clear hb
      (first | (refine take_held (i := 13) (d := (some 56)) (v := ?_) rfl rfl (by kernel_rfl) (by kernel_rfl) (by kernel_rfl) (fun _ _ _ h => h) (Or.inl ⟨by rfl, ?_⟩) hHeld ?_; rotate_left 1; focus ((intro w hSw; (try dsimp only at hSw); first | (go_simp; done) | (go_simp; with_reducible rfl)); done); (try simp only [Act.put, List.setIfInBounds_toArray, List.set_cons_zero, List.set_cons_succ])))
      (first | (refine take_held (i := 14) (d := (some 57)) (v := ?_) rfl rfl (by kernel_rfl) (by kernel_rfl) (by kernel_rfl) (fun _ _ _ h => h) (Or.inl ⟨by rfl, ?_⟩) hHeld ?_; rotate_left 1; focus ((intro w hSw; (try dsimp only at hSw); first | (go_simp; done) | (go_simp; with_reducible rfl)); done); (try simp only [Act.put, List.setIfInBounds_toArray, List.set_cons_zero, List.set_cons_succ])))
      (first | (refine take_held (i := 15) (d := (some 58)) (v := ?_) rfl rfl (by kernel_rfl) (by kernel_rfl) (by kernel_rfl) (fun _ _ _ h => h) (Or.inl ⟨by rfl, ?_⟩) hHeld ?_; rotate_left 1; focus ((intro w hSw; (try dsimp only at hSw); first | (go_simp; done) | (go_simp; with_reducible rfl)); done); (try simp only [Act.put, List.setIfInBounds_toArray, List.set_cons_zero, List.set_cons_succ])) | (refine take_held (i := 15) (d := (some 58)) (v := undef) rfl rfl (by kernel_rfl) (by kernel_rfl) (by kernel_rfl) (fun _ _ _ h => h) (Or.inr ⟨by rfl, rfl⟩) hHeld ?_; (try simp only [Act.put, List.setIfInBounds_toArray, List.set_cons_zero, List.set_cons_succ])))
      (first | (refine take_held (i := 16) (d := (some 59)) (v := ?_) rfl rfl (by kernel_rfl) (by kernel_rfl) (by kernel_rfl) (fun _ _ _ h => h) (Or.inl ⟨by rfl, ?_⟩) hHeld ?_; rotate_left 1; focus ((intro w hSw; (try dsimp only at hSw); first | (go_simp; done) | (go_simp; with_reducible rfl)); done); (try simp only [Act.put, List.setIfInBounds_toArray, List.set_cons_zero, List.set_cons_succ])) | (refine take_held (i := 16) (d := (some 59)) (v := undef) rfl rfl (by kernel_rfl) (by kernel_rfl) (by kernel_rfl) (fun _ _ _ h => h) (Or.inr ⟨by rfl, rfl⟩) hHeld ?_; (try simp only [Act.put, List.setIfInBounds_toArray, List.set_cons_zero, List.set_cons_succ])))
      (first | (refine take_held (i := 17) (d := (some 60)) (v := ?_) rfl rfl (by kernel_rfl) (by kernel_rfl) (by kernel_rfl) (fun _ _ _ h => h) (Or.inl ⟨by rfl, ?_⟩) hHeld ?_; rotate_left 1; focus ((intro w hSw; (try dsimp only at hSw); first | (go_simp; done) | (go_simp; with_reducible rfl)); done); (try simp only [Act.put, List.setIfInBounds_toArray, List.set_cons_zero, List.set_cons_succ])) | (refine take_held (i := 17) (d := (some 60)) (v := undef) rfl rfl (by kernel_rfl) (by kernel_rfl) (by kernel_rfl) (fun _ _ _ h => h) (Or.inr ⟨by rfl, rfl⟩) hHeld ?_; (try simp only [Act.put, List.setIfInBounds_toArray, List.set_cons_zero, List.set_cons_succ])))
      (first | (refine take_held (i := 18) (d := (some 61)) (v := ?_) rfl rfl (by kernel_rfl) (by kernel_rfl) (by kernel_rfl) (fun _ _ _ h => h) (Or.inl ⟨by rfl, ?_⟩) hHeld ?_; rotate_left 1; focus ((intro w hSw; (try dsimp only at hSw); first | (go_simp; done) | (go_simp; with_reducible rfl)); done); (try simp only [Act.put, List.setIfInBounds_toArray, List.set_cons_zero, List.set_cons_succ])))
      (first | (refine take_held (i := 19) (d := (some 62)) (v := ?_) rfl rfl (by kernel_rfl) (by kernel_rfl) (by kernel_rfl) (fun _ _ _ h => h) (Or.inl ⟨by rfl, ?_⟩) hHeld ?_; rotate_left 1; focus ((intro w hSw; (try dsimp only at hSw); first | (go_simp; done) | (go_simp; with_reducible rfl)); done); (try simp only [Act.put, List.setIfInBounds_toArray, List.set_cons_zero, List.set_cons_succ])))
      refine wpAnyH_ready (rs := [20]) (by kernel_rfl) (by simp) ?_
      refine AllReadyH.cons (o := _) rfl (fun K hK => ?_) AllReadyH.nil
      go_simp
      go_at_call 25
      refine (awake_c _).mono ?_
      rintro e_ V3_5 ⟨rfl, hb⟩
      (try go_wp2_with fail)
      refine hK.out _ _ (and_of (fun hB_ => ⟨cell_up hB_ Tc0, cell_up hB_ Tc1, cell_up hB_ Tc2, cell_up hB_ Tc3, cell_up hB_ Tc4, cell_up hB_ Rc0, cell_up hB_ Rc1, cell_up hB_ Rc2, cell_up hB_ Rc3, cell_up hB_ Rc4, cell_up hB_ Qc0, cell_up hB_ Qc1, cell_up hB_ Qc2, cell_up hB_ Qc3, cell_up hB_ Qc4⟩) (chain (And.left hHeld) hb)) ?_
      clear hHeld hK K
      intro hHeld
      (try simp only [Act.put, List.setIfInBounds_toArray, List.set_cons_zero, List.set_cons_succ])
      replace hs := hs.below hb
      replace hq := hq.below hb
      clear hb
      (first | (refine take_held (i := 21) (d := (some 64)) (v := ?_) rfl rfl (by kernel_rfl) (by kernel_rfl) (by kernel_rfl) (fun _ _ _ h => h) (Or.inl ⟨by rfl, ?_⟩) hHeld ?_; rotate_left 1; focus ((intro w hSw; (try dsimp only at hSw); first | (go_simp; done) | (go_simp; with_reducible rfl)); done); (try simp only [Act.put, List.setIfInBounds_toArray, List.set_cons_zero, List.set_cons_succ])))
      (first | (refine take_held (i := 22) (d := (some 8)) (v := ?_) rfl rfl (by kernel_rfl) (by kernel_rfl) (by kernel_rfl) (fun _ _ _ h => h) (Or.inl ⟨by rfl, ?_⟩) hHeld ?_; rotate_left 1; focus ((intro w hSw; (try dsimp only at hSw); first | (go_simp; done) | (go_simp; with_reducible rfl)); done); (try simp only [Act.put, List.setIfInBounds_toArray, List.set_cons_zero, List.set_cons_succ])))
      refine wpAnyH_done (by kernel_rfl) ?_ _
      have bW_ := And.left hHeld
      clear hHeld
      clear Tc0 Tc1 Tc2 Tc3 Tc4 Tf0 Tf1 Tf2 Tf3 Tf4 Tl Rc0 Rc1 Rc2 Rc3 Rc4 Rf0 Rf1 Rf2 Rf3 Rf4 Rl Qc0 Qc1 Qc2 Qc3 Qc4 Qf0 Qf1 Qf2 Qf3 Qf4 Ql
      have b_e := chain b_7 bW_
      clear hs hq
      go_wp2
      go_ret
      exact ⟨rfl, b_e⟩
end Go.Proofs.Ytnfnhjhnfdkinaa.PSubstPuts

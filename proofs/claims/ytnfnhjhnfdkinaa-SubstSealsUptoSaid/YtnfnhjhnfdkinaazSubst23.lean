/-
  Subst: texts of this claim, put together by a program of this session. No conditions beyond what each lemma says.
-/
import Derived.Test.YtnfnhjhnfdkinaazSubst18
namespace Go.Proofs.Ytnfnhjhnfdkinaa.PSubstPuts
open Go.RowKit Go.Proofs.YtnfnhjhnfdkinaaW.Mine Go.Proofs.YtnfnhjhnfdkinaaW.PrintWords Go.Proofs.YtnfnhjhnfdkinaaW.PrintLast Go.Proofs.YtnfnhjhnfdkinaaW.PrintMore
attribute [local go_sem] max2_int min2_int max_two min_two max_three min_three max_four min_four
set_option linter.unusedVariables false
set_option linter.unusedSimpArgs false
theorem Kq.of_grown2 {n : Nat} {w V X : World} {row : Option Nat} (h1 : Below n w V) (h2 : Below n w X) (hg : V.grownBy X row) : Kq (fun k => some k = row) V X := ⟨h2.os.trans h1.os.symm, h2.tape.trans h1.tape.symm, h2.output.trans h1.output.symm, hg.size, fun i hi hn => hg.block i hi (fun e => hn e)⟩
theorem infoB : (Try.prog.info? 43).map (fun i => (i.zero, i.size, i.bytes)) = some (some (.agg #[(.string ⟨#[]⟩), (.int .i64 0), (.int .i64 0), (.string ⟨#[]⟩), (.slice none 0 0), (.slice none 0 0)]), 6, 96) := by kernel_rfl
/-- A type comes, and whether it does. -/
def POut' (w : World) (a : Ty) (ok : Bool) (e : Ending) (w' : World) : Prop := ∃ A3 c3 A4 c4, e = .returned (.tuple #[tv a A3 c3 A4 c4, .bool ok]) ∧ RT w' a A3 c3 A4 c4 ∧ Below w.heap.size w w'
def POutg' (w : World) (g : Nat) (a : Ty) (ok : Bool) (e : Ending) (w' : World) : Prop := ∃ A3 c3 A4 c4, e = .returned (.tuple #[tv a A3 c3 A4 c4, .bool ok]) ∧ RTg w' g a A3 c3 A4 c4 ∧ Below w.heap.size w w'
/-- Put, by letters. -/
theorem put_l {m : List Bi} (hm : m.length * 16 ≤ 140737488351232) (om : ∀ b, b ∈ m → Okt b.f1) {t : Ty} (ot : Okt t) : ∃ (a : Ty) (ok : Bool), (ok = true ↔ putO m t = some a) ∧ Okt a ∧
    (∀ {M A3 A4 : Option Addr} {cM c3 c4 : Nat} {w : World}, RB w M cM m → RT w t A3 c3 A4 c4 → Calls Try.prog 31 #[tv t A3 c3 A4 c4, .slice M m.length cM] w (POut' w a ok)) ∧
    (∀ {M A3 A4 : Option Addr} {cM c3 c4 g : Nat} {w : World}, g < w.heap.size → RBg w g M cM m → RTg w g t A3 c3 A4 c4 → Calls Try.prog 31 #[tv t A3 c3 A4 c4, .slice M m.length cM] w (POutg' w g a ok)) := by
  refine ⟨(putO m t).getD z25, (putO m t).isSome, ?_, putO_okt' om ot, fun hM h => put_t hm (fun b hb => okt_sm (om b hb)) (okt_sm ot) hM h, fun hg hM h => put_g hm (fun b hb => okt_sm (om b hb)) (okt_sm ot) hg hM h⟩
  cases putO m t with
  | none => simp
  | some a => simp
theorem put_y {m : List Bi} (hm : m.length * 16 ≤ 140737488351232) (om : ∀ b, b ∈ m → Okt b.f1) {t a : Ty} (ot : Okt t) (h : putO m t = some a) :
    (∀ {M A3 A4 : Option Addr} {cM c3 c4 : Nat} {w : World}, RB w M cM m → RT w t A3 c3 A4 c4 → Calls Try.prog 31 #[tv t A3 c3 A4 c4, .slice M m.length cM] w (POut' w a true)) ∧
    (∀ {M A3 A4 : Option Addr} {cM c3 c4 g : Nat} {w : World}, g < w.heap.size → RBg w g M cM m → RTg w g t A3 c3 A4 c4 → Calls Try.prog 31 #[tv t A3 c3 A4 c4, .slice M m.length cM] w (POutg' w g a true)) := by
  obtain ⟨a', ok, hk, _, h1, h2⟩ := put_l hm om ot
  have e : (putO m t).getD z25 = a ∧ (putO m t).isSome = true := by rw [h]; exact ⟨rfl, rfl⟩
  refine ⟨fun hM h => ?_, fun hg hM h => ?_⟩
  · have := put_t hm (fun b hb => okt_sm (om b hb)) (okt_sm ot) hM h
    unfold POut at this
    rw [e.1, e.2] at this
    exact this
  · have := put_g hm (fun b hb => okt_sm (om b hb)) (okt_sm ot) hg hM h
    unfold POutg at this
    rw [e.1, e.2] at this
    exact this
theorem RBg.stored {w : World} {g : Nat} {A : Option Addr} {c : Nat} {l : List Bi} (h : RBg w g A c l) (v0 v1 v2 v3 v4 : Value) : RBg (((((w.setCell ⟨g, 0, none⟩ v0).setCell ⟨g, 1, none⟩ v1).setCell ⟨g, 2, none⟩ v2).setCell ⟨g, 3, none⟩ v3).setCell ⟨g, 4, none⟩ v4) g A c l :=
  ⟨Kd.F_far (Kd.F_far (Kd.F_far (Kd.F_far (Kd.F_far h.1 (p := ⟨g, 0, none⟩) (fun _ hk => hk) v0) (p := ⟨g, 1, none⟩) (fun _ hk => hk) v1) (p := ⟨g, 2, none⟩) (fun _ hk => hk) v2) (p := ⟨g, 3, none⟩) (fun _ hk => hk) v3) (p := ⟨g, 4, none⟩) (fun _ hk => hk) v4, h.2⟩
/-- What the loop has put together: the first i bindings, n put into their types. -/
def TW (m n P : List Bi) (i : Nat) : Prop := P.length = i ∧ P.map (·.f0) = (m.take i).map (·.f0) ∧ (∀ j, (hj : j < m.length) → (hj' : j < P.length) → putO n m[j].f1 = some P[j].f1) ∧ ∀ x, x ∈ P → Okt x.f1
theorem TW.start (m n : List Bi) : TW m n [] 0 := ⟨rfl, rfl, fun j _ h => absurd h (Nat.not_lt_zero _), fun x hx => by cases hx⟩
theorem TW.next {m n P : List Bi} {i : Nat} {u : Ty} (h : TW m n P i) (hi : i < m.length) (e : putO n m[i].f1 = some u) (ou : Okt u) : TW m n (P ++ [⟨m[i].f0, u⟩]) (i + 1) := by
  obtain ⟨h1, h2, h3, h4⟩ := h
  refine ⟨by rw [List.length_append, h1]; rfl, by rw [List.map_append, h2, List.take_succ_eq_append_getElem hi, List.map_append]; rfl, fun j hj hj' => ?_, fun x hx => ?_⟩
  · by_cases hl : j < P.length
    · rw [List.getElem_append_left hl]; exact h3 j hj hl
    · have : j = i := by rw [List.length_append, h1] at hj'; simp at hj'; omega
      subst this
      rw [List.getElem_append_right (by omega)]
      simp only [h1, Nat.sub_self, List.getElem_cons_zero]
      exact e
  · rcases List.mem_append.1 hx with hx | hx
    · exact h4 x hx
    · obtain rfl := List.mem_singleton.1 hx; exact ou
theorem TW.done {m n P : List Bi} {i : Nat} (h : TW m n P i) (hi : ¬ i < m.length) {t a b : Ty} (ha : putO m t = some a) (hb : putO n a = some b) : putO (P ++ n) t = some b := by
  refine put_twice (m := m) (p := P) ?_ (fun j hj hj' => h.2.2.1 j hj hj') ha hb
  rw [h.2.1, List.take_of_length_le (by omega)]
theorem own_block (w : World) {v : Value} {g : Nat} (hg : g < w.heap.size) (h : ∀ k, v.ownBlock = some k → k < w.heap.size ∧ g ≤ k) : ∃ g0, g0 < w.heap.size ∧ g ≤ g0 ∧ ∀ k, k ≠ g0 → some k ≠ v.ownBlock := by
  cases e : v.ownBlock with
  | none => exact ⟨g, hg, Nat.le_refl _, fun k _ => by simp⟩
  | some k0 => exact ⟨k0, (h k0 e).1, (h k0 e).2, fun k hk he => hk (Option.some.inj he)⟩
set_option maxHeartbeats 4000000 in
set_option maxRecDepth 100000 in
theorem twice_c (t : Ty) (m n : List Bi) (ot : Okt t) (om : ∀ x, x ∈ m → Okt x.f1) (on : ∀ x, x ∈ n → Okt x.f1) (hm : m.length * 96 ≤ 140737488351232) (hn : n.length * 96 ≤ 140737488351232)
    {A3 A4 M N : Option Addr} {c3 c4 cM cN : Nat} {w : World} (ht : RT w t A3 c3 A4 c4) (hM : RB w M cM m) (hN : RB w N cN n) :
    Calls Try.prog 8 #[tv t A3 c3 A4 c4, .slice M m.length cM, .slice N n.length cN] w (Yes w) := by
  obtain ⟨mu, cMu⟩ := much_c ot
  obtain ⟨fe, hfe, cFe⟩ := few_c (m := m) (by omega) om
  obtain ⟨fn, hfn, cFn⟩ := few_c (m := n) (by omega) on
  obtain ⟨a, oa, ha, oka, cPa, _⟩ := put_l (m := m) (by omega) om ot
  obtain ⟨b, ob, hb', okb, cPb, _⟩ := put_l (m := n) (by omega) on oka
  have PL := Aside0.mk (fun (y : Ty) (oy : Okt y) => put_l (m := n) (by omega) on oy)
  have MU := Aside0.mk @cMu
  have FE := Aside0.mk @cFe
  have FN := Aside0.mk @cFn
  have PA := Aside0.mk @cPa
  have PB := Aside0.mk @cPb
  have HFE := Aside0.mk hfe
  have HFN := Aside0.mk hfn
  have HA := Aside0.mk ha
  have HB := Aside0.mk hb'
  have OM := Aside0.mk om
  have ON := Aside0.mk on
  clear cMu cFe cFn cPa cPb hfe hfn ha hb' om on
  have kT := blk_new w (.cells #[.int .i64 t.f0, .int .i64 t.f1, .string t.f2, .slice A3 t.f3.length c3, .slice A4 t.f4.length c4] 25)
  have b0 := below_alloc1 w (.cells #[.int .i64 t.f0, .int .i64 t.f1, .string t.f2, .slice A3 t.f3.length c3, .slice A4 t.f4.length c4] 25)
  have htw := ht
  have hMw := hM
  have hNw := hN
  replace ht := ht.below b0
  replace hM := hM.below b0
  replace hN := hN.below b0
  go_enter Try.func8, Try.ntmps8
  obtain ⟨⟨Tc0, Tc1, Tc2, Tc3, Tc4⟩, ⟨Tf0, Tf1, Tf2, Tf3, Tf4⟩, Tl⟩ := five kT
  go_wp2_with fail
  refine (MU.out ht).mono ?_
  rintro e_ w_ ⟨rfl, hb⟩
  clear Tc0 Tc1 Tc2 Tc3 Tc4 Tf0 Tf1 Tf2 Tf3 Tf4 Tl
  have b_1 := chain b0 hb
  replace kT := blk_below kT hb
  replace ht := ht.below hb
  replace hM := hM.below hb
  replace hN := hN.below hb
  clear b0
  clear hb
  by_cases hmu : 200 < mu
  · have cmu : decide (200 < mu) = true := decide_eq_true hmu
    obtain ⟨⟨Tc0, Tc1, Tc2, Tc3, Tc4⟩, ⟨Tf0, Tf1, Tf2, Tf3, Tf4⟩, Tl⟩ := five kT
    go_wp2_with fail
    refine (awake_c _).mono ?_
    rintro e_ w_ ⟨rfl, hb⟩
    clear Tc0 Tc1 Tc2 Tc3 Tc4 Tf0 Tf1 Tf2 Tf3 Tf4 Tl
    have b_2 := chain b_1 hb
    replace kT := blk_below kT hb
    replace ht := ht.below hb
    replace hM := hM.below hb
    replace hN := hN.below hb
    clear b_1
    clear hb
    obtain ⟨⟨Tc0, Tc1, Tc2, Tc3, Tc4⟩, ⟨Tf0, Tf1, Tf2, Tf3, Tf4⟩, Tl⟩ := five kT
    go_wp2
    go_ret
    exact ⟨rfl, b_2⟩
  have cmu : decide (200 < mu) = false := decide_eq_false hmu
  clear hmu
  obtain ⟨⟨Tc0, Tc1, Tc2, Tc3, Tc4⟩, ⟨Tf0, Tf1, Tf2, Tf3, Tf4⟩, Tl⟩ := five kT
  go_wp2_with fail
  refine (FE.out hM).mono ?_
  rintro e_ w_ ⟨rfl, hb⟩
  clear Tc0 Tc1 Tc2 Tc3 Tc4 Tf0 Tf1 Tf2 Tf3 Tf4 Tl
  have b_3 := chain b_1 hb
  replace kT := blk_below kT hb
  replace ht := ht.below hb
  replace hM := hM.below hb
  replace hN := hN.below hb
  clear b_1
  clear hb
  by_cases hfe : 40 < fe
  · have cfe : decide (40 < fe) = true := decide_eq_true hfe
    obtain ⟨⟨Tc0, Tc1, Tc2, Tc3, Tc4⟩, ⟨Tf0, Tf1, Tf2, Tf3, Tf4⟩, Tl⟩ := five kT
    go_wp2_with fail
    refine (awake_c _).mono ?_
    rintro e_ w_ ⟨rfl, hb⟩
    clear Tc0 Tc1 Tc2 Tc3 Tc4 Tf0 Tf1 Tf2 Tf3 Tf4 Tl
    have b_4 := chain b_3 hb
    replace kT := blk_below kT hb
    replace ht := ht.below hb
    replace hM := hM.below hb
    replace hN := hN.below hb
    clear b_3
    clear hb
    obtain ⟨⟨Tc0, Tc1, Tc2, Tc3, Tc4⟩, ⟨Tf0, Tf1, Tf2, Tf3, Tf4⟩, Tl⟩ := five kT
    go_wp2
    go_ret
    exact ⟨rfl, b_4⟩
  have cfe : decide (40 < fe) = false := decide_eq_false hfe
  have hlfe : m.length ≤ 20 := by rcases HFE.out with h | h; exact h; omega
  have HLFE := Aside0.mk hlfe
  clear hfe hlfe HFE
  obtain ⟨⟨Tc0, Tc1, Tc2, Tc3, Tc4⟩, ⟨Tf0, Tf1, Tf2, Tf3, Tf4⟩, Tl⟩ := five kT
  go_wp2_with fail
  refine (FN.out hN).mono ?_
  rintro e_ w_ ⟨rfl, hb⟩
  clear Tc0 Tc1 Tc2 Tc3 Tc4 Tf0 Tf1 Tf2 Tf3 Tf4 Tl
  have b_5 := chain b_3 hb
  replace kT := blk_below kT hb
  replace ht := ht.below hb
  replace hM := hM.below hb
  replace hN := hN.below hb
  clear b_3
  clear hb
  by_cases hfn : 40 < fn
  · have cfn : decide (40 < fn) = true := decide_eq_true hfn
    obtain ⟨⟨Tc0, Tc1, Tc2, Tc3, Tc4⟩, ⟨Tf0, Tf1, Tf2, Tf3, Tf4⟩, Tl⟩ := five kT
    go_wp2_with fail
    refine (awake_c _).mono ?_
    rintro e_ w_ ⟨rfl, hb⟩
    clear Tc0 Tc1 Tc2 Tc3 Tc4 Tf0 Tf1 Tf2 Tf3 Tf4 Tl
    have b_6 := chain b_5 hb
    replace kT := blk_below kT hb
    replace ht := ht.below hb
    replace hM := hM.below hb
    replace hN := hN.below hb
    clear b_5
    clear hb
    obtain ⟨⟨Tc0, Tc1, Tc2, Tc3, Tc4⟩, ⟨Tf0, Tf1, Tf2, Tf3, Tf4⟩, Tl⟩ := five kT
    go_wp2
    go_ret
    exact ⟨rfl, b_6⟩
  have cfn : decide (40 < fn) = false := decide_eq_false hfn
  have hlfn : n.length ≤ 20 := by rcases HFN.out with h | h; exact h; omega
  have HLFN := Aside0.mk hlfn
  clear hfn hlfn HFN
  obtain ⟨⟨Tc0, Tc1, Tc2, Tc3, Tc4⟩, ⟨Tf0, Tf1, Tf2, Tf3, Tf4⟩, Tl⟩ := five kT
  go_wp2_with fail
  refine (PA.out hM ht).mono ?_
  rintro e_ w3 ⟨U3, u3, U4, u4, rfl, hu, hb⟩
  clear Tc0 Tc1 Tc2 Tc3 Tc4 Tf0 Tf1 Tf2 Tf3 Tf4 Tl
  have b_7 := chain b_5 hb
  replace kT := blk_below kT hb
  replace ht := ht.below hb
  replace hM := hM.below hb
  replace hN := hN.below hb
  clear b_5
  clear hb
  have kU := blk_new w3 (.cells #[.int .i64 a.f0, .int .i64 a.f1, .string a.f2, .slice U3 a.f3.length u3, .slice U4 a.f4.length u4] 25)
  have hb := below_alloc1 w3 (.cells #[.int .i64 a.f0, .int .i64 a.f1, .string a.f2, .slice U3 a.f3.length u3, .slice U4 a.f4.length u4] 25)
  have b_8 := chain b_7 hb
  replace kT := blk_below kT hb
  replace ht := ht.below hb
  replace hM := hM.below hb
  replace hN := hN.below hb
  replace hu := hu.below hb
  clear b_7
  clear hb
  obtain ⟨⟨Tc0, Tc1, Tc2, Tc3, Tc4⟩, ⟨Tf0, Tf1, Tf2, Tf3, Tf4⟩, Tl⟩ := five kT
  obtain ⟨⟨Uc0, Uc1, Uc2, Uc3, Uc4⟩, ⟨Uf0, Uf1, Uf2, Uf3, Uf4⟩, Ul⟩ := five kU
  go_wp2_with fail
  refine (PB.out hN hu).mono ?_
  rintro e_ w4 ⟨V3, v3, V4, v4, rfl, hv, hb⟩
  clear Tc0 Tc1 Tc2 Tc3 Tc4 Tf0 Tf1 Tf2 Tf3 Tf4 Tl Uc0 Uc1 Uc2 Uc3 Uc4 Uf0 Uf1 Uf2 Uf3 Uf4 Ul
  have b_9 := chain b_8 hb
  replace kT := blk_below kT hb
  replace kU := blk_below kU hb
  replace ht := ht.below hb
  replace hM := hM.below hb
  replace hN := hN.below hb
  replace hu := hu.below hb
  clear b_8
  clear hb
  have kV := blk_new w4 (.cells #[.int .i64 b.f0, .int .i64 b.f1, .string b.f2, .slice V3 b.f3.length v3, .slice V4 b.f4.length v4] 25)
  have hb := below_alloc1 w4 (.cells #[.int .i64 b.f0, .int .i64 b.f1, .string b.f2, .slice V3 b.f3.length v3, .slice V4 b.f4.length v4] 25)
  have b_10 := chain b_9 hb
  replace kT := blk_below kT hb
  replace kU := blk_below kU hb
  replace ht := ht.below hb
  replace hM := hM.below hb
  replace hN := hN.below hb
  replace hu := hu.below hb
  replace hv := hv.below hb
  clear b_9
  clear hb
  cases oa with
  | false =>
    obtain ⟨⟨Tc0, Tc1, Tc2, Tc3, Tc4⟩, ⟨Tf0, Tf1, Tf2, Tf3, Tf4⟩, Tl⟩ := five kT
    obtain ⟨⟨Uc0, Uc1, Uc2, Uc3, Uc4⟩, ⟨Uf0, Uf1, Uf2, Uf3, Uf4⟩, Ul⟩ := five kU
    obtain ⟨⟨Vc0, Vc1, Vc2, Vc3, Vc4⟩, ⟨Vf0, Vf1, Vf2, Vf3, Vf4⟩, Vl⟩ := five kV
    go_wp2_with fail
    refine (awake_c _).mono ?_
    rintro e_ w_ ⟨rfl, hb⟩
    clear Tc0 Tc1 Tc2 Tc3 Tc4 Tf0 Tf1 Tf2 Tf3 Tf4 Tl Uc0 Uc1 Uc2 Uc3 Uc4 Uf0 Uf1 Uf2 Uf3 Uf4 Ul Vc0 Vc1 Vc2 Vc3 Vc4 Vf0 Vf1 Vf2 Vf3 Vf4 Vl
    have b_11 := chain b_10 hb
    replace kT := blk_below kT hb
    replace kU := blk_below kU hb
    replace kV := blk_below kV hb
    replace ht := ht.below hb
    replace hM := hM.below hb
    replace hN := hN.below hb
    replace hu := hu.below hb
    replace hv := hv.below hb
    clear b_10
    clear hb
    obtain ⟨⟨Tc0, Tc1, Tc2, Tc3, Tc4⟩, ⟨Tf0, Tf1, Tf2, Tf3, Tf4⟩, Tl⟩ := five kT
    obtain ⟨⟨Uc0, Uc1, Uc2, Uc3, Uc4⟩, ⟨Uf0, Uf1, Uf2, Uf3, Uf4⟩, Ul⟩ := five kU
    obtain ⟨⟨Vc0, Vc1, Vc2, Vc3, Vc4⟩, ⟨Vf0, Vf1, Vf2, Vf3, Vf4⟩, Vl⟩ := five kV
    go_wp2
    go_ret
    exact ⟨rfl, b_11⟩
  | true =>
    cases ob with
    | false =>
      obtain ⟨⟨Tc0, Tc1, Tc2, Tc3, Tc4⟩, ⟨Tf0, Tf1, Tf2, Tf3, Tf4⟩, Tl⟩ := five kT
      obtain ⟨⟨Uc0, Uc1, Uc2, Uc3, Uc4⟩, ⟨Uf0, Uf1, Uf2, Uf3, Uf4⟩, Ul⟩ := five kU
      obtain ⟨⟨Vc0, Vc1, Vc2, Vc3, Vc4⟩, ⟨Vf0, Vf1, Vf2, Vf3, Vf4⟩, Vl⟩ := five kV
      go_wp2_with fail
      refine (awake_c _).mono ?_
      rintro e_ w_ ⟨rfl, hb⟩
      clear Tc0 Tc1 Tc2 Tc3 Tc4 Tf0 Tf1 Tf2 Tf3 Tf4 Tl Uc0 Uc1 Uc2 Uc3 Uc4 Uf0 Uf1 Uf2 Uf3 Uf4 Ul Vc0 Vc1 Vc2 Vc3 Vc4 Vf0 Vf1 Vf2 Vf3 Vf4 Vl
      have b_12 := chain b_10 hb
      replace kT := blk_below kT hb
      replace kU := blk_below kU hb
      replace kV := blk_below kV hb
      replace ht := ht.below hb
      replace hM := hM.below hb
      replace hN := hN.below hb
      replace hu := hu.below hb
      replace hv := hv.below hb
      clear b_10
      clear hb
      obtain ⟨⟨Tc0, Tc1, Tc2, Tc3, Tc4⟩, ⟨Tf0, Tf1, Tf2, Tf3, Tf4⟩, Tl⟩ := five kT
      obtain ⟨⟨Uc0, Uc1, Uc2, Uc3, Uc4⟩, ⟨Uf0, Uf1, Uf2, Uf3, Uf4⟩, Ul⟩ := five kU
      obtain ⟨⟨Vc0, Vc1, Vc2, Vc3, Vc4⟩, ⟨Vf0, Vf1, Vf2, Vf3, Vf4⟩, Vl⟩ := five kV
      go_wp2
      go_ret
      exact ⟨rfl, b_12⟩
    | true =>
      have EA := Aside0.mk (HA.out.1 rfl)
      have EB := Aside0.mk (HB.out.1 rfl)
      clear HA HB PA PB
      obtain ⟨⟨Tc0, Tc1, Tc2, Tc3, Tc4⟩, ⟨Tf0, Tf1, Tf2, Tf3, Tf4⟩, Tl⟩ := five kT
      obtain ⟨⟨Uc0, Uc1, Uc2, Uc3, Uc4⟩, ⟨Uf0, Uf1, Uf2, Uf3, Uf4⟩, Ul⟩ := five kU
      obtain ⟨⟨Vc0, Vc1, Vc2, Vc3, Vc4⟩, ⟨Vf0, Vf1, Vf2, Vf3, Vf4⟩, Vl⟩ := five kV
      go_wp2_with fail
      generalize hW4 : w4.alloc (.cells #[.int .i64 b.f0, .int .i64 b.f1, .string b.f2, .slice V3 b.f3.length v3, .slice V4 b.f4.length v4] 25) = wq at ht hM hN hu hv kT kU kV Tc0 Tc1 Tc2 Tc3 Tc4 Tf0 Tf1 Tf2 Tf3 Tf4 Tl Uc0 Uc1 Uc2 Uc3 Uc4 Uf0 Uf1 Uf2 Uf3 Uf4 Ul Vc0 Vc1 Vc2 Vc3 Vc4 Vf0 Vf1 Vf2 Vf3 Vf4 Vl b_10 ⊢
      clear hW4
      go_loopg [11, 12] m.length (fun kq v11 v12 w' => ∃ (i : Nat) (v : Value) (P : List Bi), v11 = v ∧ v12 = .int .i64 i ∧ kq + i = m.length ∧ Aside0 (TW m n P i) ∧ Kd.N kBi 43 w' wq.heap.size (fun _ => True) v P ∧ Below wq.heap.size wq w')
      case atStart => exact ⟨0, .slice none 0 0, [], rfl, rfl, rfl, ⟨TW.start m n⟩, Kd.N_nil _ _ _ _ _, Below.refl _ _⟩
      case round =>
        obtain ⟨i, v, P, rfl, rfl, hk, HP, HO, br⟩ := hrel
        obtain ⟨Av, cv, rfl⟩ := Kd.N_slice HO
        have tq : w.heap.size < wq.heap.size := blk_lt kT
        have tr : wq.heap.size ≤ wr.heap.size := br.size
        have BQ := Aside0.mk b_10
        clear Tc0 Tc1 Tc2 Tc3 Tc4 Tf0 Tf1 Tf2 Tf3 Tf4 Tl Uc0 Uc1 Uc2 Uc3 Uc4 Uf0 Uf1 Uf2 Uf3 Uf4 Ul Vc0 Vc1 Vc2 Vc3 Vc4 Vf0 Vf1 Vf2 Vf3 Vf4 Vl
        have HK := Aside0.mk hk
        clear hk
        by_cases hi : i < m.length
        · obtain ⟨k1, rfl⟩ : ∃ k1, gk = k1 + 1 := ⟨gk - 1, by have := HK.out; omega⟩
          have hq := br
          have b_13 := chain b_10 br
          replace kT := blk_below kT br
          replace kU := blk_below kU br
          replace kV := blk_below kV br
          replace ht := ht.below br
          replace hM := hM.below br
          replace hN := hN.below br
          replace hu := hu.below br
          replace hv := hv.below br
          clear b_10
          have ci : decide ((i : Int) < (m.length : Int)) = true := decide_eq_true (by omega)
          have i0 : (0 : Int) ≤ (i : Int) := by omega
          have i1 : (i : Int) < (m.length : Int) := by omega
          obtain ⟨ad, X3, e3, X4, e4, hA, fx, x0, x1, x2, x3, x4, x5⟩ := belt hMw.1 i hi
          have hx : RT w m[i].f1 X3 e3 X4 e4 := fx.rt
          clear fx
          have hal := World.block_lt_of_cell? w _ x0
          obtain ⟨g0, hg0, hge, hgo⟩ := own_block wr (v := .slice Av P.length cv) (g := w.heap.size) (by omega) (fun k hk => ⟨Kd.N_lt HO k hk, by have := Kd.N_base HO k hk; omega⟩)
          have HGO := Aside0.mk hgo
          clear hgo
          obtain ⟨u, ou, hou, oku, _, cPu⟩ := PL.out m[i].f1 (OM.out _ (List.getElem_mem hi))
          have PU := Aside0.mk @cPu
          have HU := Aside0.mk hou
          clear cPu hou
          replace x0 := cell_up b_13 x0
          replace x1 := cell_up b_13 x1
          replace x2 := cell_up b_13 x2
          replace x3 := cell_up b_13 x3
          replace x4 := cell_up b_13 x4
          replace x5 := cell_up b_13 x5
          obtain ⟨⟨Tc0, Tc1, Tc2, Tc3, Tc4⟩, ⟨Tf0, Tf1, Tf2, Tf3, Tf4⟩, Tl⟩ := five kT
          obtain ⟨⟨Uc0, Uc1, Uc2, Uc3, Uc4⟩, ⟨Uf0, Uf1, Uf2, Uf3, Uf4⟩, Ul⟩ := five kU
          obtain ⟨⟨Vc0, Vc1, Vc2, Vc3, Vc4⟩, ⟨Vf0, Vf1, Vf2, Vf3, Vf4⟩, Vl⟩ := five kV
          subst hA
          go_wp2_with fail
          refine (PU.out hg0 (hNw.gg b_13 hge) (hx.gg b_13 hge)).mono ?_
          rintro e_ w6 ⟨Y3, y3, Y4, y4, rfl, hy, hb⟩
          clear Tc0 Tc1 Tc2 Tc3 Tc4 Tf0 Tf1 Tf2 Tf3 Tf4 Tl Uc0 Uc1 Uc2 Uc3 Uc4 Uf0 Uf1 Uf2 Uf3 Uf4 Ul Vc0 Vc1 Vc2 Vc3 Vc4 Vf0 Vf1 Vf2 Vf3 Vf4 Vl
          replace HO := Kd.N_below HO hb
          replace x0 := cell_up hb x0
          replace x1 := cell_up hb x1
          replace x2 := cell_up hb x2
          replace x3 := cell_up hb x3
          replace x4 := cell_up hb x4
          replace x5 := cell_up hb x5
          have b_14 := chain b_13 hb
          replace kT := blk_below kT hb
          replace kU := blk_below kU hb
          replace kV := blk_below kV hb
          replace ht := ht.below hb
          replace hM := hM.below hb
          replace hN := hN.below hb
          replace hu := hu.below hb
          replace hv := hv.below hb
          replace hq := chain hq hb
          clear b_13
          clear hb
          have kY := blk_new w6 (.cells #[.int .i64 u.f0, .int .i64 u.f1, .string u.f2, .slice Y3 u.f3.length y3, .slice Y4 u.f4.length y4] 25)
          have hb := below_alloc1 w6 (.cells #[.int .i64 u.f0, .int .i64 u.f1, .string u.f2, .slice Y3 u.f3.length y3, .slice Y4 u.f4.length y4] 25)
          replace HO := Kd.N_below HO hb
          replace x0 := cell_up hb x0
          replace x1 := cell_up hb x1
          replace x2 := cell_up hb x2
          replace x3 := cell_up hb x3
          replace x4 := cell_up hb x4
          replace x5 := cell_up hb x5
          have b_15 := chain b_14 hb
          replace kT := blk_below kT hb
          replace kU := blk_below kU hb
          replace kV := blk_below kV hb
          replace ht := ht.below hb
          replace hM := hM.below hb
          replace hN := hN.below hb
          replace hu := hu.below hb
          replace hv := hv.below hb
          replace hq := chain hq hb
          replace hy := hy.below hb
          clear b_14
          clear hb
          cases ou with
          | false =>
            obtain ⟨⟨Tc0, Tc1, Tc2, Tc3, Tc4⟩, ⟨Tf0, Tf1, Tf2, Tf3, Tf4⟩, Tl⟩ := five kT
            obtain ⟨⟨Uc0, Uc1, Uc2, Uc3, Uc4⟩, ⟨Uf0, Uf1, Uf2, Uf3, Uf4⟩, Ul⟩ := five kU
            obtain ⟨⟨Vc0, Vc1, Vc2, Vc3, Vc4⟩, ⟨Vf0, Vf1, Vf2, Vf3, Vf4⟩, Vl⟩ := five kV
            obtain ⟨⟨Yc0, Yc1, Yc2, Yc3, Yc4⟩, ⟨Yf0, Yf1, Yf2, Yf3, Yf4⟩, Yl⟩ := five kY
            go_wp2_with fail
            refine (awake_c _).mono ?_
            rintro e_ w_ ⟨rfl, hb⟩
            clear Tc0 Tc1 Tc2 Tc3 Tc4 Tf0 Tf1 Tf2 Tf3 Tf4 Tl Uc0 Uc1 Uc2 Uc3 Uc4 Uf0 Uf1 Uf2 Uf3 Uf4 Ul Vc0 Vc1 Vc2 Vc3 Vc4 Vf0 Vf1 Vf2 Vf3 Vf4 Vl Yc0 Yc1 Yc2 Yc3 Yc4 Yf0 Yf1 Yf2 Yf3 Yf4 Yl
            have b_16 := chain b_15 hb
            replace kT := blk_below kT hb
            replace kU := blk_below kU hb
            replace kV := blk_below kV hb
            replace kY := blk_below kY hb
            replace ht := ht.below hb
            replace hM := hM.below hb
            replace hN := hN.below hb
            replace hu := hu.below hb
            replace hv := hv.below hb
            replace hq := chain hq hb
            replace hy := hy.below hb
            clear b_15
            clear hb
            obtain ⟨⟨Tc0, Tc1, Tc2, Tc3, Tc4⟩, ⟨Tf0, Tf1, Tf2, Tf3, Tf4⟩, Tl⟩ := five kT
            obtain ⟨⟨Uc0, Uc1, Uc2, Uc3, Uc4⟩, ⟨Uf0, Uf1, Uf2, Uf3, Uf4⟩, Ul⟩ := five kU
            obtain ⟨⟨Vc0, Vc1, Vc2, Vc3, Vc4⟩, ⟨Vf0, Vf1, Vf2, Vf3, Vf4⟩, Vl⟩ := five kV
            obtain ⟨⟨Yc0, Yc1, Yc2, Yc3, Yc4⟩, ⟨Yf0, Yf1, Yf2, Yf3, Yf4⟩, Yl⟩ := five kY
            go_wp2
            go_ret
            exact ⟨rfl, b_16⟩
          | true =>
            have EU := Aside0.mk (HU.out.1 rfl)
            clear HU PU
            obtain ⟨⟨Tc0, Tc1, Tc2, Tc3, Tc4⟩, ⟨Tf0, Tf1, Tf2, Tf3, Tf4⟩, Tl⟩ := five kT
            obtain ⟨⟨Uc0, Uc1, Uc2, Uc3, Uc4⟩, ⟨Uf0, Uf1, Uf2, Uf3, Uf4⟩, Ul⟩ := five kU
            obtain ⟨⟨Vc0, Vc1, Vc2, Vc3, Vc4⟩, ⟨Vf0, Vf1, Vf2, Vf3, Vf4⟩, Vl⟩ := five kV
            obtain ⟨⟨Yc0, Yc1, Yc2, Yc3, Yc4⟩, ⟨Yf0, Yf1, Yf2, Yf3, Yf4⟩, Yl⟩ := five kY
            go_wp2_with fail
            generalize hW7 : w6.alloc (.cells #[.int .i64 u.f0, .int .i64 u.f1, .string u.f2, .slice Y3 u.f3.length y3, .slice Y4 u.f4.length y4] 25) = w7 at x0 x1 x2 x3 x4 x5 HO ht hM hN hu hv hq hy kT kU kV kY Tc0 Tc1 Tc2 Tc3 Tc4 Tf0 Tf1 Tf2 Tf3 Tf4 Tl Uc0 Uc1 Uc2 Uc3 Uc4 Uf0 Uf1 Uf2 Uf3 Uf4 Ul Vc0 Vc1 Vc2 Vc3 Vc4 Vf0 Vf1 Vf2 Vf3 Vf4 Vl Yc0 Yc1 Yc2 Yc3 Yc4 Yf0 Yf1 Yf2 Yf3 Yf4 Yl b_15 ⊢
            clear hW7
            have ngY : some w6.heap.size ≠ (Value.slice Av P.length cv).ownBlock := Kd.N_ne HO kY (by decide)
            have nx0 : ¬ some (ad.add (i * 6)).block = (Value.slice Av P.length cv).ownBlock := fun he => by have := Kd.N_base HO _ he.symm; omega
            have nYc0 : ¬ some w6.heap.size = (Value.slice Av P.length cv).ownBlock := ngY
            have nYc1 : ¬ some w6.heap.size = (Value.slice Av P.length cv).ownBlock := ngY
            have nYc2 : ¬ some w6.heap.size = (Value.slice Av P.length cv).ownBlock := ngY
            have nYc3 : ¬ some w6.heap.size = (Value.slice Av P.length cv).ownBlock := ngY
            have nYc4 : ¬ some w6.heap.size = (Value.slice Av P.length cv).ownBlock := ngY
            refine wp_region_held_drew (S := (fun w' => Kq (fun k => some k = (Value.slice Av P.length cv).ownBlock) w7 w' ∧ w'.cell? (ad.add (i * 6)) = some (.string m[i].f0) ∧ w'.cell? ⟨w6.heap.size, 0, none⟩ = some (.int .i64 u.f0) ∧ w'.cell? ⟨w6.heap.size, 1, none⟩ = some (.int .i64 u.f1) ∧ w'.cell? ⟨w6.heap.size, 2, none⟩ = some (.string u.f2) ∧ w'.cell? ⟨w6.heap.size, 3, none⟩ = some (.slice Y3 u.f3.length y3) ∧ w'.cell? ⟨w6.heap.size, 4, none⟩ = some (.slice Y4 u.f4.length y4))) (by kernel_rfl) ?_ (fun hHeld => ?_)
            · exact (and_of (fun hB_ => ⟨hB_.cell x0 nx0, hB_.cell Yc0 nYc0, hB_.cell Yc1 nYc1, hB_.cell Yc2 nYc2, hB_.cell Yc3 nYc3, hB_.cell Yc4 nYc4⟩) (Kq.of_below (Below.refl _ _).drew))
            have bd_ : Below w7.heap.size w7 w7.drew := (Below.refl _ _).drew
            have HO_s := HO
            have hy_s := hy
            have hq_s := hq
            replace HO := Kd.N_below HO bd_
            replace hy := hy.below bd_
            replace hq := chain hq bd_
            generalize w7.drew = V2_0 at hHeld HO hy hq bd_ ⊢
            clear bd_ HO_s hy_s hq_s
            (first | (refine take_held (i := 0) (d := (some 69)) (v := ?_) rfl rfl (by kernel_rfl) (by kernel_rfl) (by kernel_rfl) (fun _ _ _ h => h) (Or.inl ⟨by rfl, ?_⟩) hHeld ?_; rotate_left 1; focus ((intro w hSw; (try dsimp only at hSw); first | (go_simp; done) | (go_simp; with_reducible rfl)); done); (try simp only [Act.put, List.setIfInBounds_toArray, List.set_cons_zero, List.set_cons_succ])))
            (first | (refine take_held (i := 1) (d := (some 70)) (v := ?_) rfl rfl (by kernel_rfl) (by kernel_rfl) (by kernel_rfl) (fun _ _ _ h => h) (Or.inl ⟨by rfl, ?_⟩) hHeld ?_; rotate_left 1; focus ((intro w hSw; (try dsimp only at hSw); first | (go_simp; done) | (go_simp; with_reducible rfl)); done); (try simp only [Act.put, List.setIfInBounds_toArray, List.set_cons_zero, List.set_cons_succ])))
            (first | (refine take_held (i := 2) (d := (some 71)) (v := ?_) rfl rfl (by kernel_rfl) (by kernel_rfl) (by kernel_rfl) (fun _ _ _ h => h) (Or.inl ⟨by rfl, ?_⟩) hHeld ?_; rotate_left 1; focus ((intro w hSw; (try dsimp only at hSw); first | (go_simp; done) | (go_simp; with_reducible rfl)); done); (try simp only [Act.put, List.setIfInBounds_toArray, List.set_cons_zero, List.set_cons_succ])))
            (first | (refine take_held (i := 3) (d := (some 72)) (v := ?_) rfl rfl (by kernel_rfl) (by kernel_rfl) (by kernel_rfl) (fun _ _ _ h => h) (Or.inl ⟨by rfl, ?_⟩) hHeld ?_; rotate_left 1; focus ((intro w hSw; (try dsimp only at hSw); first | (go_simp; done) | (go_simp; with_reducible rfl)); done); (try simp only [Act.put, List.setIfInBounds_toArray, List.set_cons_zero, List.set_cons_succ])))
            (first | (refine take_held (i := 4) (d := (some 73)) (v := ?_) rfl rfl (by kernel_rfl) (by kernel_rfl) (by kernel_rfl) (fun _ _ _ h => h) (Or.inl ⟨by rfl, ?_⟩) hHeld ?_; rotate_left 1; focus ((intro w hSw; (try dsimp only at hSw); first | (go_simp; done) | (go_simp; with_reducible rfl)); done); (try simp only [Act.put, List.setIfInBounds_toArray, List.set_cons_zero, List.set_cons_succ])))
            (first | (refine take_held (i := 5) (d := (some 74)) (v := ?_) rfl rfl (by kernel_rfl) (by kernel_rfl) (by kernel_rfl) (fun _ _ _ h => h) (Or.inl ⟨by rfl, ?_⟩) hHeld ?_; rotate_left 1; focus ((intro w hSw; (try dsimp only at hSw); first | (go_simp; done) | (go_simp; with_reducible rfl)); done); (try simp only [Act.put, List.setIfInBounds_toArray, List.set_cons_zero, List.set_cons_succ])))
            (first | (refine take_held (i := 6) (d := (some 75)) (v := ?_) rfl rfl (by kernel_rfl) (by kernel_rfl) (by kernel_rfl) (fun _ _ _ h => h) (Or.inl ⟨by rfl, ?_⟩) hHeld ?_; rotate_left 1; focus ((intro w hSw; (try dsimp only at hSw); first | (go_simp; done) | (go_simp; with_reducible rfl)); done); (try simp only [Act.put, List.setIfInBounds_toArray, List.set_cons_zero, List.set_cons_succ])))
            (first | (refine take_held (i := 7) (d := (some 76)) (v := ?_) rfl rfl (by kernel_rfl) (by kernel_rfl) (by kernel_rfl) (fun _ _ _ h => h) (Or.inl ⟨by rfl, ?_⟩) hHeld ?_; rotate_left 1; focus ((intro w hSw; (try dsimp only at hSw); first | (go_simp; done) | (go_simp; with_reducible rfl)); done); (try simp only [Act.put, List.setIfInBounds_toArray, List.set_cons_zero, List.set_cons_succ])))
            refine wpAnyH_ready (rs := [8]) (by kernel_rfl) (by simp) ?_
            refine AllReadyH.cons (o := _) rfl (fun K hK => ?_) AllReadyH.nil
            go_simp
            have hb := below_alloc1 V2_0 (.cells #[.string m[i].f0, .int .i64 u.f0, .int .i64 u.f1, .string u.f2, .slice Y3 u.f3.length y3, .slice Y4 u.f4.length y4] 43)
            (try go_wp2_with fail)
            refine hK.out _ _ (and_of (fun hB_ => ⟨hB_.cell x0 nx0, hB_.cell Yc0 nYc0, hB_.cell Yc1 nYc1, hB_.cell Yc2 nYc2, hB_.cell Yc3 nYc3, hB_.cell Yc4 nYc4⟩) ((And.left hHeld).trans (Kq.of_below hb))) ?_
            have HV0 := Aside0.mk (And.left hHeld)
            clear hHeld hK K hb
            intro hHeld
            (try simp only [Act.put, List.setIfInBounds_toArray, List.set_cons_zero, List.set_cons_succ])
            refine wpAnyH_ready (rs := [9]) (by kernel_rfl) (by simp) ?_
            refine AllReadyH.cons (o := _) rfl (fun K hK => ?_) AllReadyH.nil
            refine Kd.N_append_step kBi (w0 := wq) wq.heap.size (by rfl) (.tmp 69) (.tmp 77) 35 43 (.agg #[(.string ⟨#[]⟩), (.int .i64 0), (.int .i64 0), (.string ⟨#[]⟩), (.slice none 0 0), (.slice none 0 0)]) 96 rfl Try.underlying35 infoB rfl (by decide) (by decide) (Value.slice Av P.length cv) P (⟨m[i].f0, u⟩ : Bi) [.string m[i].f0, .int .i64 u.f0, .int .i64 u.f1, .string u.f2, .slice Y3 u.f3.length y3, .slice Y4 u.f4.length y4] (fun _ => True) (fun k => k ≠ g0) rfl rfl ?aP (fun k hk => ⟨trivial, HGO.out k hk⟩) (fun k hk => trivial) HO hq hq.size (by have := HP.out.1; have := HLFE.out; omega) ?_
            case aP => exact k43_mkF _ _ (⟨m[i].f0, u⟩ : Bi) hy.1 hy.2.1 hy.2.2.1 hy.2.2.2
            intro v1 V2_1 hN1 hB1 hg1 hat1
            obtain ⟨A1, d1, rfl⟩ := Kd.N_slice hN1
            rw [show (P ++ [(⟨m[i].f0, u⟩ : Bi)]).length = P.length + 1 by simp] at hN1 ⊢
            have gq1 := Kq.of_grown2 hq hB1 hg1
            refine hK.out _ _ (and_of (fun hB_ => ⟨hB_.cell x0 nx0, hB_.cell Yc0 nYc0, hB_.cell Yc1 nYc1, hB_.cell Yc2 nYc2, hB_.cell Yc3 nYc3, hB_.cell Yc4 nYc4⟩) ((HV0.out.trans gq1))) ?_
            clear hHeld hK K
            intro hHeld
            (try simp only [Act.put, List.setIfInBounds_toArray, List.set_cons_zero, List.set_cons_succ])
            (first | (refine take_held (i := 10) (d := (some 11)) (v := ?_) rfl rfl (by kernel_rfl) (by kernel_rfl) (by kernel_rfl) (fun _ _ _ h => h) (Or.inl ⟨by rfl, ?_⟩) hHeld ?_; rotate_left 1; focus ((intro w hSw; (try dsimp only at hSw); first | (go_simp; done) | (go_simp; with_reducible rfl)); done); (try simp only [Act.put, List.setIfInBounds_toArray, List.set_cons_zero, List.set_cons_succ])))
            refine wpAnyH_done (by kernel_rfl) ?_ _
            have bW_ := And.left hHeld
            clear hHeld
            clear Tc0 Tc1 Tc2 Tc3 Tc4 Tf0 Tf1 Tf2 Tf3 Tf4 Tl Uc0 Uc1 Uc2 Uc3 Uc4 Uf0 Uf1 Uf2 Uf3 Uf4 Ul Vc0 Vc1 Vc2 Vc3 Vc4 Vf0 Vf1 Vf2 Vf3 Vf4 Vl Yc0 Yc1 Yc2 Yc3 Yc4 Yf0 Yf1 Yf2 Yf3 Yf4 Yl bW_
            go_wp2
            go_roundg k1
            case measure => omega
            case rel => exact ⟨i + 1, .slice A1 (P.length + 1) d1, P ++ [⟨m[i].f0, u⟩], rfl, (by first | rfl | (simp; done) | (push_cast; rfl)), by have := HK.out; omega, ⟨HP.out.next hi EU.out oku⟩, hN1, hB1⟩
        have cn : decide ((i : Int) < (m.length : Int)) = false := decide_eq_false (by omega)
        have cn2 : decide (i < m.length) = false := decide_eq_false hi
        have EC := HP.out.done hi EA.out EB.out
        have lP := HP.out.1
        have hk_ := HK.out
        have oP := HP.out.2.2.2
        have okP : ∀ x, x ∈ P ++ n → Okt x.f1 := fun x hx => by rcases List.mem_append.1 hx with h | h; exact oP x h; exact ON.out x h
        have PC_ := put_y (m := P ++ n) (by rw [List.length_append]; have := HLFE.out; have := HLFN.out; omega) okP ot EC
        rw [List.length_append] at PC_
        have PC := Aside0.mk PC_
        clear PC_
        have LP : P.length ≤ 20 := by have := HLFE.out; omega
        have LPP := Aside0.mk LP
        clear EC oP okP lP LP HP EA EB hi hk_
        have hq := br
        have kTr := blk_below kT br
        obtain ⟨⟨Tc0, Tc1, Tc2, Tc3, Tc4⟩, _, _⟩ := five kTr
        go_wp2_with fail
        have nTc0 : ¬ some w.heap.size = (Value.slice Av P.length cv).ownBlock := fun he => by have := Kd.N_base HO _ he.symm; omega
        have nTc1 : ¬ some w.heap.size = (Value.slice Av P.length cv).ownBlock := fun he => by have := Kd.N_base HO _ he.symm; omega
        have nTc2 : ¬ some w.heap.size = (Value.slice Av P.length cv).ownBlock := fun he => by have := Kd.N_base HO _ he.symm; omega
        have nTc3 : ¬ some w.heap.size = (Value.slice Av P.length cv).ownBlock := fun he => by have := Kd.N_base HO _ he.symm; omega
        have nTc4 : ¬ some w.heap.size = (Value.slice Av P.length cv).ownBlock := fun he => by have := Kd.N_base HO _ he.symm; omega
        have HOr := HO
        refine with_cont (G := ?G3) ?cont3 fun hmain => ?reg3
        case reg3 =>
          refine wp_region_held_drew (S := (fun w' => Kq (fun k => some k = (Value.slice Av P.length cv).ownBlock) wr w' ∧ w'.cell? ⟨w.heap.size, 0, none⟩ = some (.int .i64 t.f0) ∧ w'.cell? ⟨w.heap.size, 1, none⟩ = some (.int .i64 t.f1) ∧ w'.cell? ⟨w.heap.size, 2, none⟩ = some (.string t.f2) ∧ w'.cell? ⟨w.heap.size, 3, none⟩ = some (.slice A3 t.f3.length c3) ∧ w'.cell? ⟨w.heap.size, 4, none⟩ = some (.slice A4 t.f4.length c4))) (by kernel_rfl) ?_ (fun hHeld => ?_)
          · exact (and_of (fun hB_ => ⟨hB_.cell Tc0 nTc0, hB_.cell Tc1 nTc1, hB_.cell Tc2 nTc2, hB_.cell Tc3 nTc3, hB_.cell Tc4 nTc4⟩) (Kq.of_below (Below.refl _ _).drew))
          have bd_ : Below wr.heap.size wr wr.drew := (Below.refl _ _).drew
          have HO_s := HO
          have hq_s := hq
          replace HO := Kd.N_below HO bd_
          replace hq := chain hq bd_
          generalize wr.drew = V3_0 at hHeld HO hq bd_ ⊢
          clear bd_ HO_s hq_s
          (first | (refine take_held (i := 0) (d := (some 80)) (v := ?_) rfl rfl (by kernel_rfl) (by kernel_rfl) (by kernel_rfl) (fun _ _ _ h => h) (Or.inl ⟨by rfl, ?_⟩) hHeld ?_; rotate_left 1; focus ((intro w hSw; (try dsimp only at hSw); first | (go_simp; done) | (go_simp; with_reducible rfl)); done); (try simp only [Act.put, List.setIfInBounds_toArray, List.set_cons_zero, List.set_cons_succ])))
          (first | (refine take_held (i := 1) (d := (some 81)) (v := ?_) rfl rfl (by kernel_rfl) (by kernel_rfl) (by kernel_rfl) (fun _ _ _ h => h) (Or.inl ⟨by rfl, ?_⟩) hHeld ?_; rotate_left 1; focus ((intro w hSw; (try dsimp only at hSw); first | (go_simp; done) | (go_simp; with_reducible rfl)); done); (try simp only [Act.put, List.setIfInBounds_toArray, List.set_cons_zero, List.set_cons_succ])))
          (first | (refine take_held (i := 2) (d := (some 82)) (v := ?_) rfl rfl (by kernel_rfl) (by kernel_rfl) (by kernel_rfl) (fun _ _ _ h => h) (Or.inl ⟨by rfl, ?_⟩) hHeld ?_; rotate_left 1; focus ((intro w hSw; (try dsimp only at hSw); first | (go_simp; done) | (go_simp; with_reducible rfl)); done); (try simp only [Act.put, List.setIfInBounds_toArray, List.set_cons_zero, List.set_cons_succ])))
          refine wpAnyH_ready (rs := [3, 8]) (by kernel_rfl) (by simp) ?_
          refine AllReadyH.cons (o := _) rfl (fun K hK => ?_) (AllReadyH.cons (o := _) rfl (fun K hK => ?_) AllReadyH.nil)
          focus
            refine Kd.N_append_rows_step kBi (w0 := wq) wq.heap.size (by rfl) (.tmp 81) (.tmp 82) 35 43 (.agg #[(.string ⟨#[]⟩), (.int .i64 0), (.int .i64 0), (.string ⟨#[]⟩), (.slice none 0 0), (.slice none 0 0)]) 96 rfl Try.underlying35 infoB rfl (by decide) (by decide) (Value.slice Av P.length cv) P n N n.length cN (fun _ => True) (fun k => k < w.heap.size) rfl rfl HO (Kd.F_below (Kd.C_F heapBi hNw.1) (chain BQ.out hq)) (fun k hk => ⟨trivial, fun he => by have := Kd.N_base HO k he.symm; omega⟩) (fun k hk => trivial) hq hq.size (by have := LPP.out; have := HLFN.out; omega) ?_
            intro v1 V3_1 hN1 hB1 hg1 hat1
            obtain ⟨A1, d1, rfl⟩ := Kd.N_slice hN1
            rw [List.length_append] at hN1 ⊢
            have gq1 := Kq.of_grown2 hq hB1 hg1
            have hPN : RB V3_1 A1 d1 (P ++ n) := ⟨(Kd.N_reads' hN1).2.2, by rw [List.length_append]; exact (Kd.N_reads' hN1).2.1⟩
            replace hq := hB1
            clear hB1 hN1 hg1 hat1 HO
            refine hK.out _ _ (and_of (fun hB_ => ⟨hB_.cell Tc0 nTc0, hB_.cell Tc1 nTc1, hB_.cell Tc2 nTc2, hB_.cell Tc3 nTc3, hB_.cell Tc4 nTc4⟩) (((And.left hHeld).trans gq1))) ?_
            clear hHeld hK K
            intro hHeld
            (try simp only [Act.put, List.setIfInBounds_toArray, List.set_cons_zero, List.set_cons_succ])
            refine wpAnyH_ready (rs := [4, 8]) (by kernel_rfl) (by simp) ?_
            refine AllReadyH.cons (o := _) rfl (fun K hK => ?_) (AllReadyH.cons (o := _) rfl (fun K hK => ?_) AllReadyH.nil)
            focus
              go_simp
              go_at_call 31
              refine (PC.out.1 hPN (htw.below (chain BQ.out hq))).mono ?_
              rintro e_ V3_2 ⟨C3, d3, C4, d4, rfl, hc, hb⟩
              (try go_wp2_with fail)
              refine hK.out _ _ (and_of (fun hB_ => ⟨hB_.cell Tc0 nTc0, hB_.cell Tc1 nTc1, hB_.cell Tc2 nTc2, hB_.cell Tc3 nTc3, hB_.cell Tc4 nTc4⟩) ((And.left hHeld).trans (Kq.of_below hb))) ?_
              clear hHeld hK K
              intro hHeld
              (try simp only [Act.put, List.setIfInBounds_toArray, List.set_cons_zero, List.set_cons_succ])
              replace hq := chain hq hb
              replace hPN := hPN.below hb
              clear hb
              (first | (refine take_held (i := 5) (d := (some 79)) (v := ?_) rfl rfl (by kernel_rfl) (by kernel_rfl) (by kernel_rfl) (fun _ _ _ h => h) (Or.inl ⟨by rfl, ?_⟩) hHeld ?_; rotate_left 1; focus ((intro w hSw; (try dsimp only at hSw); first | (go_simp; done) | (go_simp; with_reducible rfl)); done); (try simp only [Act.put, List.setIfInBounds_toArray, List.set_cons_zero, List.set_cons_succ])))
              (first | (refine take_held (i := 6) (d := (some 85)) (v := ?_) rfl rfl (by kernel_rfl) (by kernel_rfl) (by kernel_rfl) (fun _ _ _ h => h) (Or.inl ⟨by rfl, ?_⟩) hHeld ?_; rotate_left 1; focus ((intro w hSw; (try dsimp only at hSw); first | (go_simp; done) | (go_simp; with_reducible rfl)); done); (try simp only [Act.put, List.setIfInBounds_toArray, List.set_cons_zero, List.set_cons_succ])))
              (first | (refine take_held (i := 7) (d := (some 86)) (v := ?_) rfl rfl (by kernel_rfl) (by kernel_rfl) (by kernel_rfl) (fun _ _ _ h => h) (Or.inl ⟨by rfl, ?_⟩) hHeld ?_; rotate_left 1; focus ((intro w hSw; (try dsimp only at hSw); first | (go_simp; done) | (go_simp; with_reducible rfl)); done); (try simp only [Act.put, List.setIfInBounds_toArray, List.set_cons_zero, List.set_cons_succ])))
              refine wpAnyH_ready (rs := [8]) (by kernel_rfl) (by simp) ?_
              refine AllReadyH.cons (o := _) rfl (fun K hK => ?_) AllReadyH.nil
              go_simp
              obtain ⟨gR, hgR⟩ : ∃ g_, g_ = V3_2.heap.size := ⟨_, rfl⟩
              have kR := blk_new V3_2 (.cells #[.int .i64 0, .int .i64 0, .string ⟨#[]⟩, .slice none 0 0, .slice none 0 0] 25)
              have hb := below_alloc1 V3_2 (.cells #[.int .i64 0, .int .i64 0, .string ⟨#[]⟩, .slice none 0 0, .slice none 0 0] 25)
              have lgR : wr.heap.size ≤ gR := by have := (And.left hHeld).size; omega
              (try go_wp2_with fail)
              refine hK.out _ _ (and_of (fun hB_ => ⟨hB_.cell Tc0 nTc0, hB_.cell Tc1 nTc1, hB_.cell Tc2 nTc2, hB_.cell Tc3 nTc3, hB_.cell Tc4 nTc4⟩) ((And.left hHeld).trans (Kq.of_below hb))) ?_
              clear hHeld hK K
              intro hHeld
              (try simp only [Act.put, List.setIfInBounds_toArray, List.set_cons_zero, List.set_cons_succ])
              replace hPN := hPN.ag
              replace hc := hc.ag
              rw [← hgR] at kR hPN hc ⊢
              clear hgR
              replace hq := chain hq hb
              replace hPN := hPN.below hb
              replace hc := hc.below hb
              generalize V3_2.alloc (.cells #[.int .i64 0, .int .i64 0, .string ⟨#[]⟩, .slice none 0 0, .slice none 0 0] 25) = V3_3 at *
              clear hb
              have fin_ := And.intro hHeld (And.intro hPN (And.intro hc (And.intro hq (And.intro kR (And.intro lgR (True.intro))))))
              revert fin_
              generalize V3_3 = v_0, A1 = v_1, C3 = v_2, C4 = v_3, d1 = v_4, d3 = v_5, d4 = v_6, gR = v_7
              revert v_0 v_1 v_2 v_3 v_4 v_5 v_6 v_7
              exact hmain.out
            focus
              go_simp
              obtain ⟨gR, hgR⟩ : ∃ g_, g_ = V3_1.heap.size := ⟨_, rfl⟩
              have kR := blk_new V3_1 (.cells #[.int .i64 0, .int .i64 0, .string ⟨#[]⟩, .slice none 0 0, .slice none 0 0] 25)
              have hb := below_alloc1 V3_1 (.cells #[.int .i64 0, .int .i64 0, .string ⟨#[]⟩, .slice none 0 0, .slice none 0 0] 25)
              have lgR : wr.heap.size ≤ gR := by have := (And.left hHeld).size; omega
              (try go_wp2_with fail)
              refine hK.out _ _ (and_of (fun hB_ => ⟨hB_.cell Tc0 nTc0, hB_.cell Tc1 nTc1, hB_.cell Tc2 nTc2, hB_.cell Tc3 nTc3, hB_.cell Tc4 nTc4⟩) ((And.left hHeld).trans (Kq.of_below hb))) ?_
              clear hHeld hK K
              intro hHeld
              (try simp only [Act.put, List.setIfInBounds_toArray, List.set_cons_zero, List.set_cons_succ])
              replace hPN := hPN.ag
              rw [← hgR] at kR hPN ⊢
              clear hgR
              replace hq := chain hq hb
              replace hPN := hPN.below hb
              generalize V3_1.alloc (.cells #[.int .i64 0, .int .i64 0, .string ⟨#[]⟩, .slice none 0 0, .slice none 0 0] 25) = V3_4 at *
              clear hb
              refine wpAnyH_ready (rs := [4]) (by kernel_rfl) (by simp) ?_
              refine AllReadyH.cons (o := _) rfl (fun K hK => ?_) AllReadyH.nil
              go_simp
              go_at_call 31
              refine (PC.out.2 (blk_lt kR) hPN (htw.gg (chain BQ.out hq) (by omega))).mono ?_
              rintro e_ V3_5 ⟨C3, d3, C4, d4, rfl, hc, hb⟩
              (try go_wp2_with fail)
              refine hK.out _ _ (and_of (fun hB_ => ⟨hB_.cell Tc0 nTc0, hB_.cell Tc1 nTc1, hB_.cell Tc2 nTc2, hB_.cell Tc3 nTc3, hB_.cell Tc4 nTc4⟩) ((And.left hHeld).trans (Kq.of_below hb))) ?_
              clear hHeld hK K
              intro hHeld
              (try simp only [Act.put, List.setIfInBounds_toArray, List.set_cons_zero, List.set_cons_succ])
              replace hq := chain hq hb
              replace hPN := hPN.below hb
              replace kR := blk_below kR hb
              clear hb
              (first | (refine take_held (i := 5) (d := (some 79)) (v := ?_) rfl rfl (by kernel_rfl) (by kernel_rfl) (by kernel_rfl) (fun _ _ _ h => h) (Or.inl ⟨by rfl, ?_⟩) hHeld ?_; rotate_left 1; focus ((intro w hSw; (try dsimp only at hSw); first | (go_simp; done) | (go_simp; with_reducible rfl)); done); (try simp only [Act.put, List.setIfInBounds_toArray, List.set_cons_zero, List.set_cons_succ])))
              (first | (refine take_held (i := 6) (d := (some 85)) (v := ?_) rfl rfl (by kernel_rfl) (by kernel_rfl) (by kernel_rfl) (fun _ _ _ h => h) (Or.inl ⟨by rfl, ?_⟩) hHeld ?_; rotate_left 1; focus ((intro w hSw; (try dsimp only at hSw); first | (go_simp; done) | (go_simp; with_reducible rfl)); done); (try simp only [Act.put, List.setIfInBounds_toArray, List.set_cons_zero, List.set_cons_succ])))
              (first | (refine take_held (i := 7) (d := (some 86)) (v := ?_) rfl rfl (by kernel_rfl) (by kernel_rfl) (by kernel_rfl) (fun _ _ _ h => h) (Or.inl ⟨by rfl, ?_⟩) hHeld ?_; rotate_left 1; focus ((intro w hSw; (try dsimp only at hSw); first | (go_simp; done) | (go_simp; with_reducible rfl)); done); (try simp only [Act.put, List.setIfInBounds_toArray, List.set_cons_zero, List.set_cons_succ])))
              have fin_ := And.intro hHeld (And.intro hPN (And.intro hc (And.intro hq (And.intro kR (And.intro lgR (True.intro))))))
              revert fin_
              generalize V3_5 = v_0, A1 = v_1, C3 = v_2, C4 = v_3, d1 = v_4, d3 = v_5, d4 = v_6, gR = v_7
              revert v_0 v_1 v_2 v_3 v_4 v_5 v_6 v_7
              exact hmain.out
          focus
            go_simp
            obtain ⟨gR, hgR⟩ : ∃ g_, g_ = V3_0.heap.size := ⟨_, rfl⟩
            have kR := blk_new V3_0 (.cells #[.int .i64 0, .int .i64 0, .string ⟨#[]⟩, .slice none 0 0, .slice none 0 0] 25)
            have hb := below_alloc1 V3_0 (.cells #[.int .i64 0, .int .i64 0, .string ⟨#[]⟩, .slice none 0 0, .slice none 0 0] 25)
            have lgR : wr.heap.size ≤ gR := by have := (And.left hHeld).size; omega
            (try go_wp2_with fail)
            refine hK.out _ _ (and_of (fun hB_ => ⟨hB_.cell Tc0 nTc0, hB_.cell Tc1 nTc1, hB_.cell Tc2 nTc2, hB_.cell Tc3 nTc3, hB_.cell Tc4 nTc4⟩) ((And.left hHeld).trans (Kq.of_below hb))) ?_
            clear hHeld hK K
            intro hHeld
            (try simp only [Act.put, List.setIfInBounds_toArray, List.set_cons_zero, List.set_cons_succ])
            replace HO := Kd.N_mono (Kd.N_bound HO) (ok' := fun k => k ≠ V3_0.heap.size) (fun k hk => Nat.ne_of_lt hk.2)
            rw [← hgR] at kR HO ⊢
            clear hgR
            replace HO := Kd.N_below HO hb
            replace hq := chain hq hb
            generalize V3_0.alloc (.cells #[.int .i64 0, .int .i64 0, .string ⟨#[]⟩, .slice none 0 0, .slice none 0 0] 25) = V3_6 at *
            clear hb
            refine wpAnyH_ready (rs := [3]) (by kernel_rfl) (by simp) ?_
            refine AllReadyH.cons (o := _) rfl (fun K hK => ?_) AllReadyH.nil
            refine Kd.N_append_rows_step kBi (w0 := wq) wq.heap.size (by rfl) (.tmp 81) (.tmp 82) 35 43 (.agg #[(.string ⟨#[]⟩), (.int .i64 0), (.int .i64 0), (.string ⟨#[]⟩), (.slice none 0 0), (.slice none 0 0)]) 96 rfl Try.underlying35 infoB rfl (by decide) (by decide) (Value.slice Av P.length cv) P n N n.length cN (fun k => k ≠ gR) (fun k => k < w.heap.size) rfl rfl HO (Kd.F_below (Kd.C_F heapBi hNw.1) (chain BQ.out hq)) (fun k hk => ⟨by omega, fun he => by have := Kd.N_base HO k he.symm; omega⟩) (fun k hk => by have := blk_lt kR; omega) hq hq.size (by have := LPP.out; have := HLFN.out; omega) ?_
            intro v1 V3_7 hN1 hB1 hg1 hat1
            obtain ⟨A1, d1, rfl⟩ := Kd.N_slice hN1
            rw [List.length_append] at hN1 ⊢
            have gq1 := Kq.of_grown2 hq hB1 hg1
            replace kR := (hg1.block gR (blk_lt kR) (fun he => by have := Kd.N_lt HOr _ he.symm; omega)).trans kR
            have hPN : RBg V3_7 gR A1 d1 (P ++ n) := ⟨by rw [List.length_append]; exact Kd.N_F hN1, by rw [List.length_append]; exact (Kd.N_reads' hN1).2.1⟩
            replace hq := hB1
            clear hB1 hN1 hg1 hat1 HO
            refine hK.out _ _ (and_of (fun hB_ => ⟨hB_.cell Tc0 nTc0, hB_.cell Tc1 nTc1, hB_.cell Tc2 nTc2, hB_.cell Tc3 nTc3, hB_.cell Tc4 nTc4⟩) (((And.left hHeld).trans gq1))) ?_
            clear hHeld hK K
            intro hHeld
            (try simp only [Act.put, List.setIfInBounds_toArray, List.set_cons_zero, List.set_cons_succ])
            refine wpAnyH_ready (rs := [4]) (by kernel_rfl) (by simp) ?_
            refine AllReadyH.cons (o := _) rfl (fun K hK => ?_) AllReadyH.nil
            go_simp
            go_at_call 31
            refine (PC.out.2 (blk_lt kR) hPN (htw.gg (chain BQ.out hq) (by omega))).mono ?_
            rintro e_ V3_8 ⟨C3, d3, C4, d4, rfl, hc, hb⟩
            (try go_wp2_with fail)
            refine hK.out _ _ (and_of (fun hB_ => ⟨hB_.cell Tc0 nTc0, hB_.cell Tc1 nTc1, hB_.cell Tc2 nTc2, hB_.cell Tc3 nTc3, hB_.cell Tc4 nTc4⟩) ((And.left hHeld).trans (Kq.of_below hb))) ?_
            clear hHeld hK K
            intro hHeld
            (try simp only [Act.put, List.setIfInBounds_toArray, List.set_cons_zero, List.set_cons_succ])
            replace hq := chain hq hb
            replace kR := blk_below kR hb
            replace hPN := hPN.below hb
            clear hb
            (first | (refine take_held (i := 5) (d := (some 79)) (v := ?_) rfl rfl (by kernel_rfl) (by kernel_rfl) (by kernel_rfl) (fun _ _ _ h => h) (Or.inl ⟨by rfl, ?_⟩) hHeld ?_; rotate_left 1; focus ((intro w hSw; (try dsimp only at hSw); first | (go_simp; done) | (go_simp; with_reducible rfl)); done); (try simp only [Act.put, List.setIfInBounds_toArray, List.set_cons_zero, List.set_cons_succ])))
            (first | (refine take_held (i := 6) (d := (some 85)) (v := ?_) rfl rfl (by kernel_rfl) (by kernel_rfl) (by kernel_rfl) (fun _ _ _ h => h) (Or.inl ⟨by rfl, ?_⟩) hHeld ?_; rotate_left 1; focus ((intro w hSw; (try dsimp only at hSw); first | (go_simp; done) | (go_simp; with_reducible rfl)); done); (try simp only [Act.put, List.setIfInBounds_toArray, List.set_cons_zero, List.set_cons_succ])))
            (first | (refine take_held (i := 7) (d := (some 86)) (v := ?_) rfl rfl (by kernel_rfl) (by kernel_rfl) (by kernel_rfl) (fun _ _ _ h => h) (Or.inl ⟨by rfl, ?_⟩) hHeld ?_; rotate_left 1; focus ((intro w hSw; (try dsimp only at hSw); first | (go_simp; done) | (go_simp; with_reducible rfl)); done); (try simp only [Act.put, List.setIfInBounds_toArray, List.set_cons_zero, List.set_cons_succ])))
            have fin_ := And.intro hHeld (And.intro hPN (And.intro hc (And.intro hq (And.intro kR (And.intro lgR (True.intro))))))
            revert fin_
            generalize V3_8 = v_0, A1 = v_1, C3 = v_2, C4 = v_3, d1 = v_4, d3 = v_5, d4 = v_6, gR = v_7
            revert v_0 v_1 v_2 v_3 v_4 v_5 v_6 v_7
            exact hmain.out
        case cont3 =>
          intro V3 A1 C3 C4 d1 d3 d4 gR fin_
          obtain ⟨hHeld, hPN, hc, hq, kR, lgR, _⟩ := fin_
          have bx_ := five kR
          obtain ⟨⟨x0_, x1_, x2_, x3_, x4_⟩, ⟨y0_, y1_, y2_, y3_, y4_⟩, z_⟩ := bx_
          refine wpAnyH_ready (rs := [9]) (by kernel_rfl) (by simp) ?_
          refine AllReadyH.cons (o := _) rfl (fun K hK => ?_) AllReadyH.nil
          go_simp
          (try go_wp2_with fail)
          refine hK.out _ _ (and_of (fun hB_ => ⟨hB_.cell Tc0 nTc0, hB_.cell Tc1 nTc1, hB_.cell Tc2 nTc2, hB_.cell Tc3 nTc3, hB_.cell Tc4 nTc4⟩) ((And.left hHeld).set5 (.inr lgR) _ _ _ _ _)) ?_
          clear hHeld hK K x0_ x1_ x2_ x3_ x4_ y0_ y1_ y2_ y3_ y4_ z_
          intro hHeld
          (try simp only [Act.put, List.setIfInBounds_toArray, List.set_cons_zero, List.set_cons_succ])
          replace kR := stored kR (.int .i64 b.f0) (.int .i64 b.f1) (.string b.f2) (.slice C3 b.f3.length d3) (.slice C4 b.f4.length d4)
          replace hPN := hPN.stored (.int .i64 b.f0) (.int .i64 b.f1) (.string b.f2) (.slice C3 b.f3.length d3) (.slice C4 b.f4.length d4)
          replace hc := hc.stored (.int .i64 b.f0) (.int .i64 b.f1) (.string b.f2) (.slice C3 b.f3.length d3) (.slice C4 b.f4.length d4)
          replace hq := below_stored hq (g := gR) (by omega) (.int .i64 b.f0) (.int .i64 b.f1) (.string b.f2) (.slice C3 b.f3.length d3) (.slice C4 b.f4.length d4)
          generalize World.setCell (World.setCell (World.setCell (World.setCell (World.setCell V3 _ _) _ _) _ _) _ _) _ _ = V3_9 at hHeld kR hPN hc hq ⊢
          (first | (refine take_held (i := 10) (d := (some 16)) (v := ?_) rfl rfl (by kernel_rfl) (by kernel_rfl) (by kernel_rfl) (fun _ _ _ h => h) (Or.inl ⟨by rfl, ?_⟩) hHeld ?_; rotate_left 1; focus ((intro w hSw; (try dsimp only at hSw); first | (go_simp; done) | (go_simp; with_reducible rfl)); done); (try simp only [Act.put, List.setIfInBounds_toArray, List.set_cons_zero, List.set_cons_succ])))
          refine wpAnyH_done (by kernel_rfl) ?_ _
          have bW_ := And.left hHeld
          clear hHeld
          clear bW_ Tc0 Tc1 Tc2 Tc3 Tc4
          replace hc := RTg.rt hc
          have b_17 := chain b_10 hq
          replace kT := blk_below kT hq
          replace kU := blk_below kU hq
          replace kV := blk_below kV hq
          replace ht := ht.below hq
          replace hM := hM.below hq
          replace hN := hN.below hq
          replace hu := hu.below hq
          replace hv := hv.below hq
          clear b_10
          clear hq
          have HSS := Aside0.mk (same_refl b)
          obtain ⟨⟨Tc0, Tc1, Tc2, Tc3, Tc4⟩, ⟨Tf0, Tf1, Tf2, Tf3, Tf4⟩, Tl⟩ := five kT
          obtain ⟨⟨Uc0, Uc1, Uc2, Uc3, Uc4⟩, ⟨Uf0, Uf1, Uf2, Uf3, Uf4⟩, Ul⟩ := five kU
          obtain ⟨⟨Vc0, Vc1, Vc2, Vc3, Vc4⟩, ⟨Vf0, Vf1, Vf2, Vf3, Vf4⟩, Vl⟩ := five kV
          obtain ⟨⟨Rc0, Rc1, Rc2, Rc3, Rc4⟩, ⟨Rf0, Rf1, Rf2, Rf3, Rf4⟩, Rl⟩ := five kR
          go_wp2_with fail
          refine (rsame_c okb _ hv hc).mono ?_
          rintro e_ w_ ⟨rfl, hb⟩
          clear Tc0 Tc1 Tc2 Tc3 Tc4 Tf0 Tf1 Tf2 Tf3 Tf4 Tl Uc0 Uc1 Uc2 Uc3 Uc4 Uf0 Uf1 Uf2 Uf3 Uf4 Ul Vc0 Vc1 Vc2 Vc3 Vc4 Vf0 Vf1 Vf2 Vf3 Vf4 Vl Rc0 Rc1 Rc2 Rc3 Rc4 Rf0 Rf1 Rf2 Rf3 Rf4 Rl
          have b_18 := chain b_17 hb
          replace kT := blk_below kT hb
          replace kU := blk_below kU hb
          replace kV := blk_below kV hb
          replace kR := blk_below kR hb
          replace ht := ht.below hb
          replace hM := hM.below hb
          replace hN := hN.below hb
          replace hu := hu.below hb
          replace hv := hv.below hb
          replace hc := hc.below hb
          clear b_17
          clear hb
          rw [HSS.out]
          obtain ⟨⟨Tc0, Tc1, Tc2, Tc3, Tc4⟩, ⟨Tf0, Tf1, Tf2, Tf3, Tf4⟩, Tl⟩ := five kT
          obtain ⟨⟨Uc0, Uc1, Uc2, Uc3, Uc4⟩, ⟨Uf0, Uf1, Uf2, Uf3, Uf4⟩, Ul⟩ := five kU
          obtain ⟨⟨Vc0, Vc1, Vc2, Vc3, Vc4⟩, ⟨Vf0, Vf1, Vf2, Vf3, Vf4⟩, Vl⟩ := five kV
          obtain ⟨⟨Rc0, Rc1, Rc2, Rc3, Rc4⟩, ⟨Rf0, Rf1, Rf2, Rf3, Rf4⟩, Rl⟩ := five kR
          go_wp2_with fail
          refine (awake_c _).mono ?_
          rintro e_ w_ ⟨rfl, hb⟩
          clear Tc0 Tc1 Tc2 Tc3 Tc4 Tf0 Tf1 Tf2 Tf3 Tf4 Tl Uc0 Uc1 Uc2 Uc3 Uc4 Uf0 Uf1 Uf2 Uf3 Uf4 Ul Vc0 Vc1 Vc2 Vc3 Vc4 Vf0 Vf1 Vf2 Vf3 Vf4 Vl Rc0 Rc1 Rc2 Rc3 Rc4 Rf0 Rf1 Rf2 Rf3 Rf4 Rl
          have b_19 := chain b_18 hb
          replace kT := blk_below kT hb
          replace kU := blk_below kU hb
          replace kV := blk_below kV hb
          replace kR := blk_below kR hb
          replace ht := ht.below hb
          replace hM := hM.below hb
          replace hN := hN.below hb
          replace hu := hu.below hb
          replace hv := hv.below hb
          replace hc := hc.below hb
          clear b_18
          clear hb
          obtain ⟨⟨Tc0, Tc1, Tc2, Tc3, Tc4⟩, ⟨Tf0, Tf1, Tf2, Tf3, Tf4⟩, Tl⟩ := five kT
          obtain ⟨⟨Uc0, Uc1, Uc2, Uc3, Uc4⟩, ⟨Uf0, Uf1, Uf2, Uf3, Uf4⟩, Ul⟩ := five kU
          obtain ⟨⟨Vc0, Vc1, Vc2, Vc3, Vc4⟩, ⟨Vf0, Vf1, Vf2, Vf3, Vf4⟩, Vl⟩ := five kV
          obtain ⟨⟨Rc0, Rc1, Rc2, Rc3, Rc4⟩, ⟨Rf0, Rf1, Rf2, Rf3, Rf4⟩, Rl⟩ := five kR
          go_wp2
          go_ret
          exact ⟨rfl, b_19⟩
end Go.Proofs.Ytnfnhjhnfdkinaa.PSubstPuts

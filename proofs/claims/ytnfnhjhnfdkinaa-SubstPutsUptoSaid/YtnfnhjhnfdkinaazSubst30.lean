/-
  Subst: texts of this claim, put together by a program of this session. No conditions beyond what each lemma says.
-/
import Derived.Test.YtnfnhjhnfdkinaazSubst23
import Derived.Test.YtnfnhjhnfdkinaazSubst29
namespace Go.Proofs.Ytnfnhjhnfdkinaa.PSubstPuts
open Go.RowKit Go.Proofs.YtnfnhjhnfdkinaaW.Mine Go.Proofs.YtnfnhjhnfdkinaaW.PrintWords Go.Proofs.YtnfnhjhnfdkinaaW.PrintLast Go.Proofs.YtnfnhjhnfdkinaaW.PrintMore
attribute [local go_sem] max2_int min2_int max_two min_two max_three min_three max_four min_four
set_option linter.unusedVariables false
set_option linter.unusedSimpArgs false
theorem rput_t {m : List Bi} (hm : m.length ≤ 140737488351232) (om : ∀ b, b ∈ m → Okt b.f1) (bm : ∀ b, b ∈ m → nodes b.f1 ≤ 1048576) {t : Ty} (ot : Okt t) (bt : nodes t ≤ 1048576) {M A3 A4 : Option Addr} {cM c3 c4 : Nat} {w : World} (hC : RB w M cM m) (ht : RT w t A3 c3 A4 c4) :
    Calls Try.prog 47 #[tv t A3 c3 A4 c4, .slice M m.length cM] w (POut w (putO m t)) := by
  obtain ⟨k, hk⟩ := (rput_f hm om ot (put_nodes bm bt)).rounds
  have hf := ht.ft
  refine (limbeckref07_Put.calls k t.f0 t.f1 t.f2 _ A3 c3 t.f3 _ A4 c4 t.f4 (fun k => k < w.heap.size) M cM m _ _ _ _ _ _ w (Kd.V_mk hf.1 hf.2.1) (Kd.V_mk hf.2.2.1 hf.2.2.2) (Kd.V_mk hC.2 (Kd.C_F heapBi hC.1)) hk).mono ?_
  rintro e w' ⟨v3, v4, rfl, ⟨B3, d3, rfl, h3, f3⟩, ⟨B4, d4, rfl, h4, f4⟩, hb⟩
  exact ⟨B3, d3, B4, d4, rfl, ⟨h3, Kd.F_now f3, h4, Kd.F_now f4⟩, hb⟩
theorem put_lr {m : List Bi} (hm : m.length * 16 ≤ 140737488351232) (om : ∀ b, b ∈ m → Okt b.f1) (bm : ∀ b, b ∈ m → nodes b.f1 ≤ 1048576) {t : Ty} (ot : Okt t) (bt : nodes t ≤ 1048576) : ∃ (a : Ty) (ok : Bool), Okt a ∧
    (∀ {M A3 A4 : Option Addr} {cM c3 c4 : Nat} {w : World}, RB w M cM m → RT w t A3 c3 A4 c4 → Calls Try.prog 31 #[tv t A3 c3 A4 c4, .slice M m.length cM] w (POut' w a ok)) ∧
    (∀ {M A3 A4 : Option Addr} {cM c3 c4 : Nat} {w : World}, RB w M cM m → RT w t A3 c3 A4 c4 → Calls Try.prog 47 #[tv t A3 c3 A4 c4, .slice M m.length cM] w (POut' w a ok)) :=
  ⟨(putO m t).getD z25, (putO m t).isSome, putO_okt' om ot, fun hM h => put_t hm (fun b hb => okt_sm (om b hb)) (okt_sm ot) hM h, fun hM h => rput_t (by omega) om bm ot bt hM h⟩
def LOut (w : World) (l : List Ty) (ok : Bool) (e : Ending) (w' : World) : Prop := ∃ A c, e = .returned (.tuple #[.slice A l.length c, .bool ok]) ∧ RL w' A c l ∧ Below w.heap.size w w'
theorem allO_ok {m : List Bi} (om : ∀ b, b ∈ m → Okt b.f1) : ∀ (l us : List Ty), (∀ y, y ∈ l → Okt y) → allO m l = some us → us.length = l.length ∧ ∀ y, y ∈ us → Okt y
  | [], us, _, h => by simp only [allO] at h; injection h with h; subst h; exact ⟨rfl, fun y hy => by cases hy⟩
  | t :: l, us, ol, h => by
    simp only [allO] at h
    cases hp : putO m t with
    | none => rw [hp] at h; simp at h
    | some u =>
      cases ha : allO m l with
      | none => rw [hp, ha] at h; simp at h
      | some vs =>
        rw [hp, ha] at h
        simp only [Option.some.injEq] at h
        subst h
        obtain ⟨h1, h2⟩ := allO_ok om l vs (fun y hy => ol y (List.mem_cons_of_mem _ hy)) ha
        refine ⟨by simp [h1], fun y hy => ?_⟩
        rcases List.mem_cons.1 hy with rfl | hy
        · exact putO_okt om (ol t (List.mem_cons_self ..)) hp
        · exact h2 y hy
theorem all_lr {m : List Bi} (hm : m.length * 16 ≤ 140737488351232) (om : ∀ b, b ∈ m → Okt b.f1) (bm : ∀ b, b ∈ m → nodes b.f1 ≤ 1048576) {l : List Ty} (hl : l.length * 80 ≤ 140737488351232) (ol : ∀ y, y ∈ l → Okt y) (bl : ∀ y, y ∈ l → nodes y ≤ 1048576) : ∃ (us : List Ty) (ok : Bool), us.length ≤ 140737488351232 ∧ (∀ y, y ∈ us → Okt y) ∧
    (∀ {M A : Option Addr} {cM c : Nat} {w : World}, RB w M cM m → RL w A c l → Calls Try.prog 48 #[.slice A l.length c, .slice M m.length cM] w (LOut w us ok)) ∧
    (∀ {M A : Option Addr} {cM c : Nat} {w : World}, RB w M cM m → RL w A c l → Calls Try.prog 49 #[.slice A l.length c, .slice M m.length cM] w (LOut w us ok)) := by
  refine ⟨(allO m l).getD [], (allO m l).isSome, ?_, ?_, fun {M A cM c w} hM h => ?_, fun {M A cM c w} hM h => ?_⟩
  · cases h : allO m l with
    | none => simp
    | some us => have := (allO_ok om l us ol h).1; simp only [Option.getD_some]; omega
  · cases h : allO m l with
    | none => simp
    | some us => exact (allO_ok om l us ol h).2
  · refine (all_c m hm (fun b hb => okt_sm (om b hb)) l hl (fun y hy => okt_sm (ol y hy)) hM.1 hM.2 h).mono ?_
    cases allO m l with
    | none => rintro e w' ⟨hb, rfl⟩; exact ⟨none, 0, rfl, ⟨Kd.C_nil _ w', Nat.le_refl _⟩, hb⟩
    | some us => rintro e w' ⟨hb, A', c', rfl, hr⟩; exact ⟨A', c', rfl, hr, hb⟩
  · obtain ⟨k, hk⟩ := (rall_f (by omega) om bm l hl ol bl).rounds
    refine (limbeckref07_All.calls k (fun k => k < w.heap.size) A c l (fun k => k < w.heap.size) M cM m _ _ w (Kd.V_mk h.2 (Kd.C_F heapTy h.1)) (Kd.V_mk hM.2 (Kd.C_F heapBi hM.1)) hk).mono ?_
    rintro e w' ⟨v, rfl, hN, hb⟩
    obtain ⟨B, d, rfl⟩ := Kd.N_slice hN
    exact ⟨B, d, rfl, ⟨(Kd.N_reads' hN).2.2, (Kd.N_reads' hN).2.1⟩, hb⟩
theorem sameall_c {l : List Ty} (hl : l.length ≤ 140737488351232) (ol : ∀ y, y ∈ l → Okt y) {A B : Option Addr} {c d : Nat} {w : World} (h : RL w A c l) (k : RL w B d l) :
    Calls Try.prog 50 #[.slice A l.length c, .slice B l.length d] w fun e w' => e = .returned (.bool true) ∧ Below w.heap.size w w' := by
  obtain ⟨n, hn⟩ := (sameall_f l hl ol).rounds
  exact (limbeckref04_SameAll.calls n A c l B d l true w h.1 h.2 k.1 k.2 hn).mono fun e w' k => k
set_option maxHeartbeats 4000000 in
set_option maxRecDepth 100000 in
theorem puts_c (t : Ty) (m n : List Bi) (ot : Okt t) (om : ∀ x, x ∈ m → Okt x.f1) (on : ∀ x, x ∈ n → Okt x.f1) (hm : m.length * 96 ≤ 140737488351232) (hn : n.length * 96 ≤ 140737488351232) (bt : nodes t ≤ 1048576) (bm : ∀ x, x ∈ m → nodes x.f1 ≤ 1048576) (bn : ∀ x, x ∈ n → nodes x.f1 ≤ 1048576)
    {A3 A4 M N : Option Addr} {c3 c4 cM cN : Nat} {w : World} (ht : RT w t A3 c3 A4 c4) (hM : RB w M cM m) (hN : RB w N cN n) :
    Calls Try.prog 13 #[tv t A3 c3 A4 c4, .slice M m.length cM, .slice N n.length cN] w (Yes w) := by
  obtain ⟨mu, cMu⟩ := much_c ot
  obtain ⟨fe, hfe, cFe⟩ := few_c (m := m) (by omega) om
  obtain ⟨fn, hfn, cFn⟩ := few_c (m := n) (by omega) on
  obtain ⟨a, oa, oka, cPa, cRa⟩ := put_lr (m := m) (by omega) om bm ot bt
  obtain ⟨TL, hTL⟩ : ∃ TL, n.map (·.f1) = TL := ⟨_, rfl⟩
  obtain ⟨us, ou, lus, okus, cA, cRA⟩ := all_lr (m := m) (l := TL) (by omega) om bm (by rw [← hTL, List.length_map]; omega) (fun y hy => by rw [← hTL] at hy; obtain ⟨z, hz, rfl⟩ := List.mem_map.1 hy; exact on z hz) (fun y hy => by rw [← hTL] at hy; obtain ⟨z, hz, rfl⟩ := List.mem_map.1 hy; exact bn z hz)
  have MU := Aside0.mk @cMu
  have FE := Aside0.mk @cFe
  have FN := Aside0.mk @cFn
  have PA := Aside0.mk @cPa
  have RA := Aside0.mk @cRa
  have AL := Aside0.mk @cA
  have RAL := Aside0.mk @cRA
  have HTL := Aside0.mk hTL
  have OKU := Aside0.mk okus
  have LUS := Aside0.mk lus
  clear cMu cFe cFn cPa cRa cA cRA hTL okus lus hfe hfn bm bn bt om on
  have kT := blk_new w (.cells #[.int .i64 t.f0, .int .i64 t.f1, .string t.f2, .slice A3 t.f3.length c3, .slice A4 t.f4.length c4] 25)
  have b0 := below_alloc1 w (.cells #[.int .i64 t.f0, .int .i64 t.f1, .string t.f2, .slice A3 t.f3.length c3, .slice A4 t.f4.length c4] 25)
  replace ht := ht.below b0
  replace hM := hM.below b0
  replace hN := hN.below b0
  go_enter Try.func13, Try.ntmps13
  obtain ⟨⟨Tc0, Tc1, Tc2, Tc3, Tc4⟩, ⟨Tf0, Tf1, Tf2, Tf3, Tf4⟩, Tl⟩ := five kT
  go_wp2_with fail
  refine (MU.out ht).mono ?_
  rintro e_ w_ ⟨rfl, hb⟩
  clear Tc0 Tc1 Tc2 Tc3 Tc4 Tf0 Tf1 Tf2 Tf3 Tf4 Tl
  have b_1 := chain b0 hb
  replace kT := blk_below kT hb
  replace ht := ht.below hb
  replace hM := hM.below hb
  replace hN := hN.below hb
  clear b0
  clear hb
  by_cases hmu : 400 < mu
  · have cmu : decide (400 < mu) = true := decide_eq_true hmu
    obtain ⟨⟨Tc0, Tc1, Tc2, Tc3, Tc4⟩, ⟨Tf0, Tf1, Tf2, Tf3, Tf4⟩, Tl⟩ := five kT
    go_wp2_with fail
    refine (awake_c _).mono ?_
    rintro e_ w_ ⟨rfl, hb⟩
    clear Tc0 Tc1 Tc2 Tc3 Tc4 Tf0 Tf1 Tf2 Tf3 Tf4 Tl
    have b_2 := chain b_1 hb
    replace kT := blk_below kT hb
    replace ht := ht.below hb
    replace hM := hM.below hb
    replace hN := hN.below hb
    clear b_1
    clear hb
    obtain ⟨⟨Tc0, Tc1, Tc2, Tc3, Tc4⟩, ⟨Tf0, Tf1, Tf2, Tf3, Tf4⟩, Tl⟩ := five kT
    go_wp2
    go_ret
    exact ⟨rfl, b_2⟩
  have cmu : decide (400 < mu) = false := decide_eq_false hmu
  clear hmu
  obtain ⟨⟨Tc0, Tc1, Tc2, Tc3, Tc4⟩, ⟨Tf0, Tf1, Tf2, Tf3, Tf4⟩, Tl⟩ := five kT
  go_wp2_with fail
  refine (FE.out hM).mono ?_
  rintro e_ w_ ⟨rfl, hb⟩
  clear Tc0 Tc1 Tc2 Tc3 Tc4 Tf0 Tf1 Tf2 Tf3 Tf4 Tl
  have b_3 := chain b_1 hb
  replace kT := blk_below kT hb
  replace ht := ht.below hb
  replace hM := hM.below hb
  replace hN := hN.below hb
  clear b_1
  clear hb
  by_cases hfe : 100 < fe
  · have cfe : decide (100 < fe) = true := decide_eq_true hfe
    obtain ⟨⟨Tc0, Tc1, Tc2, Tc3, Tc4⟩, ⟨Tf0, Tf1, Tf2, Tf3, Tf4⟩, Tl⟩ := five kT
    go_wp2_with fail
    refine (awake_c _).mono ?_
    rintro e_ w_ ⟨rfl, hb⟩
    clear Tc0 Tc1 Tc2 Tc3 Tc4 Tf0 Tf1 Tf2 Tf3 Tf4 Tl
    have b_4 := chain b_3 hb
    replace kT := blk_below kT hb
    replace ht := ht.below hb
    replace hM := hM.below hb
    replace hN := hN.below hb
    clear b_3
    clear hb
    obtain ⟨⟨Tc0, Tc1, Tc2, Tc3, Tc4⟩, ⟨Tf0, Tf1, Tf2, Tf3, Tf4⟩, Tl⟩ := five kT
    go_wp2
    go_ret
    exact ⟨rfl, b_4⟩
  have cfe : decide (100 < fe) = false := decide_eq_false hfe
  clear hfe
  obtain ⟨⟨Tc0, Tc1, Tc2, Tc3, Tc4⟩, ⟨Tf0, Tf1, Tf2, Tf3, Tf4⟩, Tl⟩ := five kT
  go_wp2_with fail
  refine (FN.out hN).mono ?_
  rintro e_ w_ ⟨rfl, hb⟩
  clear Tc0 Tc1 Tc2 Tc3 Tc4 Tf0 Tf1 Tf2 Tf3 Tf4 Tl
  have b_5 := chain b_3 hb
  replace kT := blk_below kT hb
  replace ht := ht.below hb
  replace hM := hM.below hb
  replace hN := hN.below hb
  clear b_3
  clear hb
  by_cases hfn : 100 < fn
  · have cfn : decide (100 < fn) = true := decide_eq_true hfn
    obtain ⟨⟨Tc0, Tc1, Tc2, Tc3, Tc4⟩, ⟨Tf0, Tf1, Tf2, Tf3, Tf4⟩, Tl⟩ := five kT
    go_wp2_with fail
    refine (awake_c _).mono ?_
    rintro e_ w_ ⟨rfl, hb⟩
    clear Tc0 Tc1 Tc2 Tc3 Tc4 Tf0 Tf1 Tf2 Tf3 Tf4 Tl
    have b_6 := chain b_5 hb
    replace kT := blk_below kT hb
    replace ht := ht.below hb
    replace hM := hM.below hb
    replace hN := hN.below hb
    clear b_5
    clear hb
    obtain ⟨⟨Tc0, Tc1, Tc2, Tc3, Tc4⟩, ⟨Tf0, Tf1, Tf2, Tf3, Tf4⟩, Tl⟩ := five kT
    go_wp2
    go_ret
    exact ⟨rfl, b_6⟩
  have cfn : decide (100 < fn) = false := decide_eq_false hfn
  clear hfn
  obtain ⟨⟨Tc0, Tc1, Tc2, Tc3, Tc4⟩, ⟨Tf0, Tf1, Tf2, Tf3, Tf4⟩, Tl⟩ := five kT
  go_wp2_with fail
  refine (PA.out hM ht).mono ?_
  rintro e_ w3 ⟨U3, u3, U4, u4, rfl, hu, hb⟩
  clear Tc0 Tc1 Tc2 Tc3 Tc4 Tf0 Tf1 Tf2 Tf3 Tf4 Tl
  have b_7 := chain b_5 hb
  replace kT := blk_below kT hb
  replace ht := ht.below hb
  replace hM := hM.below hb
  replace hN := hN.below hb
  clear b_5
  clear hb
  have kU := blk_new w3 (.cells #[.int .i64 a.f0, .int .i64 a.f1, .string a.f2, .slice U3 a.f3.length u3, .slice U4 a.f4.length u4] 25)
  have hb := below_alloc1 w3 (.cells #[.int .i64 a.f0, .int .i64 a.f1, .string a.f2, .slice U3 a.f3.length u3, .slice U4 a.f4.length u4] 25)
  have b_8 := chain b_7 hb
  replace kT := blk_below kT hb
  replace ht := ht.below hb
  replace hM := hM.below hb
  replace hN := hN.below hb
  replace hu := hu.below hb
  clear b_7
  clear hb
  obtain ⟨⟨Tc0, Tc1, Tc2, Tc3, Tc4⟩, ⟨Tf0, Tf1, Tf2, Tf3, Tf4⟩, Tl⟩ := five kT
  obtain ⟨⟨Uc0, Uc1, Uc2, Uc3, Uc4⟩, ⟨Uf0, Uf1, Uf2, Uf3, Uf4⟩, Ul⟩ := five kU
  go_wp2_with fail
  refine (RA.out hM ht).mono ?_
  rintro e_ w4 ⟨V3, v3, V4, v4, rfl, hv, hb⟩
  clear Tc0 Tc1 Tc2 Tc3 Tc4 Tf0 Tf1 Tf2 Tf3 Tf4 Tl Uc0 Uc1 Uc2 Uc3 Uc4 Uf0 Uf1 Uf2 Uf3 Uf4 Ul
  have b_9 := chain b_8 hb
  replace kT := blk_below kT hb
  replace kU := blk_below kU hb
  replace ht := ht.below hb
  replace hM := hM.below hb
  replace hN := hN.below hb
  replace hu := hu.below hb
  clear b_8
  clear hb
  have kV := blk_new w4 (.cells #[.int .i64 a.f0, .int .i64 a.f1, .string a.f2, .slice V3 a.f3.length v3, .slice V4 a.f4.length v4] 25)
  have hb := below_alloc1 w4 (.cells #[.int .i64 a.f0, .int .i64 a.f1, .string a.f2, .slice V3 a.f3.length v3, .slice V4 a.f4.length v4] 25)
  have b_10 := chain b_9 hb
  replace kT := blk_below kT hb
  replace kU := blk_below kU hb
  replace ht := ht.below hb
  replace hM := hM.below hb
  replace hN := hN.below hb
  replace hu := hu.below hb
  replace hv := hv.below hb
  clear b_9
  clear hb
  obtain ⟨⟨Tc0, Tc1, Tc2, Tc3, Tc4⟩, ⟨Tf0, Tf1, Tf2, Tf3, Tf4⟩, Tl⟩ := five kT
  obtain ⟨⟨Uc0, Uc1, Uc2, Uc3, Uc4⟩, ⟨Uf0, Uf1, Uf2, Uf3, Uf4⟩, Ul⟩ := five kU
  obtain ⟨⟨Vc0, Vc1, Vc2, Vc3, Vc4⟩, ⟨Vf0, Vf1, Vf2, Vf3, Vf4⟩, Vl⟩ := five kV
  go_wp2_with fail
  have tc_ := types_c (m := n) (by omega) hN
  rw [HTL.out] at tc_
  refine tc_.mono ?_
  clear tc_
  rintro e_ w_ ⟨TB, tb, rfl, hT, hb⟩
  clear Tc0 Tc1 Tc2 Tc3 Tc4 Tf0 Tf1 Tf2 Tf3 Tf4 Tl Uc0 Uc1 Uc2 Uc3 Uc4 Uf0 Uf1 Uf2 Uf3 Uf4 Ul Vc0 Vc1 Vc2 Vc3 Vc4 Vf0 Vf1 Vf2 Vf3 Vf4 Vl
  have b_11 := chain b_10 hb
  replace kT := blk_below kT hb
  replace kU := blk_below kU hb
  replace kV := blk_below kV hb
  replace ht := ht.below hb
  replace hM := hM.below hb
  replace hN := hN.below hb
  replace hu := hu.below hb
  replace hv := hv.below hb
  clear b_10
  clear hb
  obtain ⟨⟨Tc0, Tc1, Tc2, Tc3, Tc4⟩, ⟨Tf0, Tf1, Tf2, Tf3, Tf4⟩, Tl⟩ := five kT
  obtain ⟨⟨Uc0, Uc1, Uc2, Uc3, Uc4⟩, ⟨Uf0, Uf1, Uf2, Uf3, Uf4⟩, Ul⟩ := five kU
  obtain ⟨⟨Vc0, Vc1, Vc2, Vc3, Vc4⟩, ⟨Vf0, Vf1, Vf2, Vf3, Vf4⟩, Vl⟩ := five kV
  go_wp2_with fail
  refine (AL.out hM hT).mono ?_
  rintro e_ w_ ⟨L1, l1, rfl, hL1, hb⟩
  clear Tc0 Tc1 Tc2 Tc3 Tc4 Tf0 Tf1 Tf2 Tf3 Tf4 Tl Uc0 Uc1 Uc2 Uc3 Uc4 Uf0 Uf1 Uf2 Uf3 Uf4 Ul Vc0 Vc1 Vc2 Vc3 Vc4 Vf0 Vf1 Vf2 Vf3 Vf4 Vl
  have b_12 := chain b_11 hb
  replace kT := blk_below kT hb
  replace kU := blk_below kU hb
  replace kV := blk_below kV hb
  replace ht := ht.below hb
  replace hM := hM.below hb
  replace hN := hN.below hb
  replace hu := hu.below hb
  replace hv := hv.below hb
  replace hT := hT.below hb
  clear b_11
  clear hb
  clear hT
  obtain ⟨⟨Tc0, Tc1, Tc2, Tc3, Tc4⟩, ⟨Tf0, Tf1, Tf2, Tf3, Tf4⟩, Tl⟩ := five kT
  obtain ⟨⟨Uc0, Uc1, Uc2, Uc3, Uc4⟩, ⟨Uf0, Uf1, Uf2, Uf3, Uf4⟩, Ul⟩ := five kU
  obtain ⟨⟨Vc0, Vc1, Vc2, Vc3, Vc4⟩, ⟨Vf0, Vf1, Vf2, Vf3, Vf4⟩, Vl⟩ := five kV
  go_wp2_with fail
  have tc_ := types_c (m := n) (by omega) hN
  rw [HTL.out] at tc_
  refine tc_.mono ?_
  clear tc_
  rintro e_ w_ ⟨TB, tb, rfl, hT, hb⟩
  clear Tc0 Tc1 Tc2 Tc3 Tc4 Tf0 Tf1 Tf2 Tf3 Tf4 Tl Uc0 Uc1 Uc2 Uc3 Uc4 Uf0 Uf1 Uf2 Uf3 Uf4 Ul Vc0 Vc1 Vc2 Vc3 Vc4 Vf0 Vf1 Vf2 Vf3 Vf4 Vl
  have b_13 := chain b_12 hb
  replace kT := blk_below kT hb
  replace kU := blk_below kU hb
  replace kV := blk_below kV hb
  replace ht := ht.below hb
  replace hM := hM.below hb
  replace hN := hN.below hb
  replace hu := hu.below hb
  replace hv := hv.below hb
  replace hL1 := hL1.below hb
  clear b_12
  clear hb
  obtain ⟨⟨Tc0, Tc1, Tc2, Tc3, Tc4⟩, ⟨Tf0, Tf1, Tf2, Tf3, Tf4⟩, Tl⟩ := five kT
  obtain ⟨⟨Uc0, Uc1, Uc2, Uc3, Uc4⟩, ⟨Uf0, Uf1, Uf2, Uf3, Uf4⟩, Ul⟩ := five kU
  obtain ⟨⟨Vc0, Vc1, Vc2, Vc3, Vc4⟩, ⟨Vf0, Vf1, Vf2, Vf3, Vf4⟩, Vl⟩ := five kV
  go_wp2_with fail
  refine (RAL.out hM hT).mono ?_
  rintro e_ w_ ⟨L2, l2, rfl, hL2, hb⟩
  clear Tc0 Tc1 Tc2 Tc3 Tc4 Tf0 Tf1 Tf2 Tf3 Tf4 Tl Uc0 Uc1 Uc2 Uc3 Uc4 Uf0 Uf1 Uf2 Uf3 Uf4 Ul Vc0 Vc1 Vc2 Vc3 Vc4 Vf0 Vf1 Vf2 Vf3 Vf4 Vl
  have b_14 := chain b_13 hb
  replace kT := blk_below kT hb
  replace kU := blk_below kU hb
  replace kV := blk_below kV hb
  replace ht := ht.below hb
  replace hM := hM.below hb
  replace hN := hN.below hb
  replace hu := hu.below hb
  replace hv := hv.below hb
  replace hL1 := hL1.below hb
  replace hT := hT.below hb
  clear b_13
  clear hb
  clear hT
  have HSS := Aside0.mk (same_refl a)
  obtain ⟨⟨Tc0, Tc1, Tc2, Tc3, Tc4⟩, ⟨Tf0, Tf1, Tf2, Tf3, Tf4⟩, Tl⟩ := five kT
  obtain ⟨⟨Uc0, Uc1, Uc2, Uc3, Uc4⟩, ⟨Uf0, Uf1, Uf2, Uf3, Uf4⟩, Ul⟩ := five kU
  obtain ⟨⟨Vc0, Vc1, Vc2, Vc3, Vc4⟩, ⟨Vf0, Vf1, Vf2, Vf3, Vf4⟩, Vl⟩ := five kV
  go_wp2_with fail
  refine (rsame_c oka _ hu hv).mono ?_
  rintro e_ w_ ⟨rfl, hb⟩
  clear Tc0 Tc1 Tc2 Tc3 Tc4 Tf0 Tf1 Tf2 Tf3 Tf4 Tl Uc0 Uc1 Uc2 Uc3 Uc4 Uf0 Uf1 Uf2 Uf3 Uf4 Ul Vc0 Vc1 Vc2 Vc3 Vc4 Vf0 Vf1 Vf2 Vf3 Vf4 Vl
  have b_15 := chain b_14 hb
  replace kT := blk_below kT hb
  replace kU := blk_below kU hb
  replace kV := blk_below kV hb
  replace ht := ht.below hb
  replace hM := hM.below hb
  replace hN := hN.below hb
  replace hu := hu.below hb
  replace hv := hv.below hb
  replace hL1 := hL1.below hb
  replace hL2 := hL2.below hb
  clear b_14
  clear hb
  rw [HSS.out]
  obtain ⟨⟨Tc0, Tc1, Tc2, Tc3, Tc4⟩, ⟨Tf0, Tf1, Tf2, Tf3, Tf4⟩, Tl⟩ := five kT
  obtain ⟨⟨Uc0, Uc1, Uc2, Uc3, Uc4⟩, ⟨Uf0, Uf1, Uf2, Uf3, Uf4⟩, Ul⟩ := five kU
  obtain ⟨⟨Vc0, Vc1, Vc2, Vc3, Vc4⟩, ⟨Vf0, Vf1, Vf2, Vf3, Vf4⟩, Vl⟩ := five kV
  go_wp2_with fail
  refine (sameall_c LUS.out OKU.out hL1 hL2).mono ?_
  rintro e_ w_ ⟨rfl, hb⟩
  clear Tc0 Tc1 Tc2 Tc3 Tc4 Tf0 Tf1 Tf2 Tf3 Tf4 Tl Uc0 Uc1 Uc2 Uc3 Uc4 Uf0 Uf1 Uf2 Uf3 Uf4 Ul Vc0 Vc1 Vc2 Vc3 Vc4 Vf0 Vf1 Vf2 Vf3 Vf4 Vl
  have b_16 := chain b_15 hb
  replace kT := blk_below kT hb
  replace kU := blk_below kU hb
  replace kV := blk_below kV hb
  replace ht := ht.below hb
  replace hM := hM.below hb
  replace hN := hN.below hb
  replace hu := hu.below hb
  replace hv := hv.below hb
  replace hL1 := hL1.below hb
  replace hL2 := hL2.below hb
  clear b_15
  clear hb
  obtain ⟨⟨Tc0, Tc1, Tc2, Tc3, Tc4⟩, ⟨Tf0, Tf1, Tf2, Tf3, Tf4⟩, Tl⟩ := five kT
  obtain ⟨⟨Uc0, Uc1, Uc2, Uc3, Uc4⟩, ⟨Uf0, Uf1, Uf2, Uf3, Uf4⟩, Ul⟩ := five kU
  obtain ⟨⟨Vc0, Vc1, Vc2, Vc3, Vc4⟩, ⟨Vf0, Vf1, Vf2, Vf3, Vf4⟩, Vl⟩ := five kV
  go_wp2_with fail
  refine (awake_c _).mono ?_
  rintro e_ w_ ⟨rfl, hb⟩
  clear Tc0 Tc1 Tc2 Tc3 Tc4 Tf0 Tf1 Tf2 Tf3 Tf4 Tl Uc0 Uc1 Uc2 Uc3 Uc4 Uf0 Uf1 Uf2 Uf3 Uf4 Ul Vc0 Vc1 Vc2 Vc3 Vc4 Vf0 Vf1 Vf2 Vf3 Vf4 Vl
  have b_17 := chain b_16 hb
  replace kT := blk_below kT hb
  replace kU := blk_below kU hb
  replace kV := blk_below kV hb
  replace ht := ht.below hb
  replace hM := hM.below hb
  replace hN := hN.below hb
  replace hu := hu.below hb
  replace hv := hv.below hb
  replace hL1 := hL1.below hb
  replace hL2 := hL2.below hb
  clear b_16
  clear hb
  obtain ⟨⟨Tc0, Tc1, Tc2, Tc3, Tc4⟩, ⟨Tf0, Tf1, Tf2, Tf3, Tf4⟩, Tl⟩ := five kT
  obtain ⟨⟨Uc0, Uc1, Uc2, Uc3, Uc4⟩, ⟨Uf0, Uf1, Uf2, Uf3, Uf4⟩, Ul⟩ := five kU
  obtain ⟨⟨Vc0, Vc1, Vc2, Vc3, Vc4⟩, ⟨Vf0, Vf1, Vf2, Vf3, Vf4⟩, Vl⟩ := five kV
  go_wp2
  go_ret
  exact ⟨rfl, b_17⟩
end Go.Proofs.Ytnfnhjhnfdkinaa.PSubstPuts

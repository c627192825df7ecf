/-
  Subst: texts of this claim, put together by a program of this session. No conditions beyond what each lemma says.
-/
import Derived.Test.YtnfnhjhnfdkinaazSubst18
namespace Go.Proofs.Ytnfnhjhnfdkinaa.PSubstPuts
open Go.RowKit Go.Proofs.YtnfnhjhnfdkinaaW.Mine Go.Proofs.YtnfnhjhnfdkinaaW.PrintWords Go.Proofs.YtnfnhjhnfdkinaaW.PrintLast Go.Proofs.YtnfnhjhnfdkinaaW.PrintMore
attribute [local go_sem] max2_int min2_int max_two min_two max_three min_three max_four min_four
set_option linter.unusedVariables false
set_option linter.unusedSimpArgs false
theorem infoS : (Try.prog.info? 9).map (fun i => (i.zero, i.size, i.bytes)) = some (some (.string ⟨#[]⟩), 1, 16) := by kernel_rfl
theorem convert_u16 (b : Int) (h0 : 0 ≤ b) (h1 : b < 65536) : IntKind.i64.wrap b = b := by simp [i64_w]; unfold wrap64; omega
set_option maxHeartbeats 4000000 in
set_option maxRecDepth 100000 in
theorem opens_c (t : Ty) (m : List Bi) (b : Int) (ot : Okt t) (st : Sn t) (om : ∀ x, x ∈ m → Okt x.f1) (hm : m.length * 96 ≤ 140737488351232) (hb0 : 0 ≤ b) (hb1 : b < 65536)
    {A3 A4 M : Option Addr} {c3 c4 cM : Nat} {w : World} (ht : RT w t A3 c3 A4 c4) (hM : RB w M cM m) :
    Calls Try.prog 9 #[tv t A3 c3 A4 c4, .slice M m.length cM, .int .u16 b] w (Yes w) := by
  obtain ⟨mu, cMu⟩ := much_c ot
  obtain ⟨fe, hfe, cFe⟩ := few_c (m := m) (by omega) om
  have MU := Aside0.mk @cMu
  have FE := Aside0.mk @cFe
  have HFE := Aside0.mk hfe
  clear cMu cFe hfe
  have OM := Aside0.mk om
  clear om
  have kT := blk_new w (.cells #[.int .i64 t.f0, .int .i64 t.f1, .string t.f2, .slice A3 t.f3.length c3, .slice A4 t.f4.length c4] 25)
  have b0 := below_alloc1 w (.cells #[.int .i64 t.f0, .int .i64 t.f1, .string t.f2, .slice A3 t.f3.length c3, .slice A4 t.f4.length c4] 25)
  replace ht := ht.below b0
  replace hM := hM.below b0
  have hw := convert_u16 b hb0 hb1
  go_enter Try.func9, Try.ntmps9
  obtain ⟨⟨Tc0, Tc1, Tc2, Tc3, Tc4⟩, ⟨Tf0, Tf1, Tf2, Tf3, Tf4⟩, Tl⟩ := five kT
  go_wp2_with fail
  refine (MU.out ht).mono ?_
  rintro e_ w_ ⟨rfl, hb⟩
  clear Tc0 Tc1 Tc2 Tc3 Tc4 Tf0 Tf1 Tf2 Tf3 Tf4 Tl
  have b_1 := chain b0 hb
  replace kT := blk_below kT hb
  replace ht := ht.below hb
  replace hM := hM.below hb
  clear b0
  clear hb
  by_cases hmu : 400 < mu
  · have cmu : decide (400 < mu) = true := decide_eq_true hmu
    obtain ⟨⟨Tc0, Tc1, Tc2, Tc3, Tc4⟩, ⟨Tf0, Tf1, Tf2, Tf3, Tf4⟩, Tl⟩ := five kT
    go_wp2_with fail
    refine (awake_c _).mono ?_
    rintro e_ w_ ⟨rfl, hb⟩
    clear Tc0 Tc1 Tc2 Tc3 Tc4 Tf0 Tf1 Tf2 Tf3 Tf4 Tl
    have b_2 := chain b_1 hb
    replace kT := blk_below kT hb
    replace ht := ht.below hb
    replace hM := hM.below hb
    clear b_1
    clear hb
    obtain ⟨⟨Tc0, Tc1, Tc2, Tc3, Tc4⟩, ⟨Tf0, Tf1, Tf2, Tf3, Tf4⟩, Tl⟩ := five kT
    go_wp2
    go_ret
    exact ⟨rfl, b_2⟩
  have cmu : decide (400 < mu) = false := decide_eq_false hmu
  clear hmu
  obtain ⟨⟨Tc0, Tc1, Tc2, Tc3, Tc4⟩, ⟨Tf0, Tf1, Tf2, Tf3, Tf4⟩, Tl⟩ := five kT
  go_wp2_with fail
  refine (FE.out hM).mono ?_
  rintro e_ w_ ⟨rfl, hb⟩
  clear Tc0 Tc1 Tc2 Tc3 Tc4 Tf0 Tf1 Tf2 Tf3 Tf4 Tl
  have b_3 := chain b_1 hb
  replace kT := blk_below kT hb
  replace ht := ht.below hb
  replace hM := hM.below hb
  clear b_1
  clear hb
  by_cases hfe : 100 < fe
  · have cfe : decide (100 < fe) = true := decide_eq_true hfe
    obtain ⟨⟨Tc0, Tc1, Tc2, Tc3, Tc4⟩, ⟨Tf0, Tf1, Tf2, Tf3, Tf4⟩, Tl⟩ := five kT
    go_wp2_with fail
    refine (awake_c _).mono ?_
    rintro e_ w_ ⟨rfl, hb⟩
    clear Tc0 Tc1 Tc2 Tc3 Tc4 Tf0 Tf1 Tf2 Tf3 Tf4 Tl
    have b_4 := chain b_3 hb
    replace kT := blk_below kT hb
    replace ht := ht.below hb
    replace hM := hM.below hb
    clear b_3
    clear hb
    obtain ⟨⟨Tc0, Tc1, Tc2, Tc3, Tc4⟩, ⟨Tf0, Tf1, Tf2, Tf3, Tf4⟩, Tl⟩ := five kT
    go_wp2
    go_ret
    exact ⟨rfl, b_4⟩
  have cfe : decide (100 < fe) = false := decide_eq_false hfe
  have h20 : m.length ≤ 20 := by rcases HFE.out with h | h; exact h; omega
  clear hfe HFE
  obtain ⟨⟨Tc0, Tc1, Tc2, Tc3, Tc4⟩, ⟨Tf0, Tf1, Tf2, Tf3, Tf4⟩, Tl⟩ := five kT
  go_wp2_with fail
  refine (has_c 9 ot ht).mono ?_
  rintro e_ wq ⟨rfl, hb⟩
  clear Tc0 Tc1 Tc2 Tc3 Tc4 Tf0 Tf1 Tf2 Tf3 Tf4 Tl
  have b_5 := chain b_3 hb
  replace kT := blk_below kT hb
  replace ht := ht.below hb
  replace hM := hM.below hb
  clear b_3
  clear hb
  cases hh : has 9 t with
  | true =>
    clear hh
    obtain ⟨⟨Tc0, Tc1, Tc2, Tc3, Tc4⟩, ⟨Tf0, Tf1, Tf2, Tf3, Tf4⟩, Tl⟩ := five kT
    go_wp2_with fail
    refine (awake_c _).mono ?_
    rintro e_ w_ ⟨rfl, hb⟩
    clear Tc0 Tc1 Tc2 Tc3 Tc4 Tf0 Tf1 Tf2 Tf3 Tf4 Tl
    have b_6 := chain b_5 hb
    replace kT := blk_below kT hb
    replace ht := ht.below hb
    replace hM := hM.below hb
    clear b_5
    clear hb
    obtain ⟨⟨Tc0, Tc1, Tc2, Tc3, Tc4⟩, ⟨Tf0, Tf1, Tf2, Tf3, Tf4⟩, Tl⟩ := five kT
    go_wp2
    go_ret
    exact ⟨rfl, b_6⟩
  | false =>
    have HH := Aside0.mk hh
    clear hh
    obtain ⟨⟨Tc0, Tc1, Tc2, Tc3, Tc4⟩, ⟨Tf0, Tf1, Tf2, Tf3, Tf4⟩, Tl⟩ := five kT
    go_wp2_with fail
    go_loopg [7, 8] m.length (fun kq v7 v8 w' => ∃ (i : Nat) (v : Value) (Ln : List ByteArray), v7 = v ∧ v8 = .int .i64 i ∧ kq + i = m.length ∧ Aside0 (Ln = (m.take i).map (·.f0)) ∧ Kd.N Kd.string 9 w' wq.heap.size (fun _ => True) v Ln ∧ Below wq.heap.size wq w')
    case atStart => exact ⟨0, .slice none 0 0, [], rfl, rfl, rfl, ⟨rfl⟩, Kd.N_nil _ _ _ _ _, Below.refl _ _⟩
    case round =>
      obtain ⟨i, v, Ln, rfl, rfl, hk, HL, HO, br⟩ := hrel
      obtain ⟨Av, cv, rfl⟩ := Kd.N_slice HO
      have hLi : Ln.length = i := by rw [HL.out, List.length_map, List.length_take]; omega
      have HLI := Aside0.mk hLi
      clear hLi
      by_cases hi : i < m.length
      · obtain ⟨k1, rfl⟩ : ∃ k1, gk = k1 + 1 := ⟨gk - 1, by omega⟩
        have ci : decide ((i : Int) < (m.length : Int)) = true := decide_eq_true (by omega)
        have i0 : (0 : Int) ≤ (i : Int) := by omega
        have i1 : (i : Int) < (m.length : Int) := by omega
        obtain ⟨ad, X3, e3, X4, e4, hA, _, x0, _⟩ := belt hM.1 i hi
        subst hA
        replace x0 := cell_up br x0
        have fk : Kd.FK Kd.string wr (fun _ => False) m[i].f0 [.string m[i].f0] := fun W' hW => (show Kd.string.K W' m[i].f0 [.string m[i].f0] from rfl)
        have hokp : ∀ k, (fun _ : Nat => False) k → (fun _ : Nat => True) k ∧ some k ≠ (Value.slice Av Ln.length cv).ownBlock := fun k hk => hk.elim
        have hfre : ∀ k, wr.heap.size ≤ k → (fun _ : Nat => True) k := fun _ _ => trivial
        have hln : (Ln.length + 1) * 16 ≤ 140737488355328 := by have := HLI.out; omega
        have HK := Aside0.mk hk
        clear hk
        have hlen : (Ln ++ [m[i].f0]).length = i + 1 := by rw [List.length_append, HLI.out]; rfl
        have HLEN := Aside0.mk hlen
        clear hlen
        go_wp2_with (first | (at_builtin; refine Kd.N_append Kd.string (w0 := wq) wq.heap.size rfl (.tmp 32) (.tmp 38) 22 9 (.string ⟨#[]⟩) 16 rfl Try.underlying22 infoS rfl (by decide) (by omega) (.slice Av Ln.length cv) Ln _ _ (fun _ : Nat => True) (fun _ : Nat => False) rfl rfl fk hokp hfre HO br br.size hln ?_; intro v1 w1 hN1 hB1 hg1 hat1; obtain ⟨A1, c1, rfl⟩ := Kd.N_slice hN1; rw [show (Ln ++ [m[i].f0]).length = Ln.length + 1 by simp] at hN1 ⊢))
        go_roundg k1
        case measure => omega
        case rel => exact ⟨i + 1, .slice A1 (Ln.length + 1) c1, Ln ++ [m[i].f0], rfl, (by first | rfl | (simp; done) | (push_cast; rfl)), by have := HK.out; omega, ⟨by rw [List.take_succ_eq_append_getElem hi, List.map_append, HL.out]; rfl⟩, hN1, hB1⟩
      have cn : decide ((i : Int) < (m.length : Int)) = false := decide_eq_false (by omega)
      have cn2 : decide (i < m.length) = false := decide_eq_false hi
      have HL2 : Ln = m.map (·.f0) := by rw [HL.out, List.take_of_length_le (by omega)]
      have rl := Kd.N_reads' HO
      have hN : RN wr Av cv Ln := ⟨rl.2.2, rl.2.1⟩
      clear rl HO hk HLI HL hi
      have HLN := Aside0.mk HL2
      clear HL2
      clear Tc0 Tc1 Tc2 Tc3 Tc4 Tf0 Tf1 Tf2 Tf3 Tf4 Tl
      have b_7 := chain b_5 br
      replace kT := blk_below kT br
      replace ht := ht.below br
      replace hM := hM.below br
      clear b_5
      clear br
      have lN : Ln.length ≤ 140737488351232 := by rw [HLN.out, List.length_map]; omega
      have LN := Aside0.mk lN
      clear lN
      obtain ⟨⟨Tc0, Tc1, Tc2, Tc3, Tc4⟩, ⟨Tf0, Tf1, Tf2, Tf3, Tf4⟩, Tl⟩ := five kT
      go_wp2_with fail
      refine (seal_c Ln b LN.out ot hN ht).mono ?_
      rintro e_ w_ ⟨S3, s3, S4, s4, rfl, hs, hb⟩
      clear Tc0 Tc1 Tc2 Tc3 Tc4 Tf0 Tf1 Tf2 Tf3 Tf4 Tl
      have b_8 := chain b_7 hb
      replace kT := blk_below kT hb
      replace ht := ht.below hb
      replace hM := hM.below hb
      replace hN := hN.below hb
      clear b_7
      clear hb
      obtain ⟨TL, hTL⟩ : ∃ TL, m.map (·.f1) = TL := ⟨_, rfl⟩
      have HTL := Aside0.mk hTL
      clear hTL
      obtain ⟨⟨Tc0, Tc1, Tc2, Tc3, Tc4⟩, ⟨Tf0, Tf1, Tf2, Tf3, Tf4⟩, Tl⟩ := five kT
      go_wp2_with fail
      have tc_ := types_c (m := m) (by omega) hM
      rw [HTL.out] at tc_
      refine tc_.mono ?_
      clear tc_
      rintro e_ w4 ⟨TB, tb, rfl, hT, hb⟩
      clear Tc0 Tc1 Tc2 Tc3 Tc4 Tf0 Tf1 Tf2 Tf3 Tf4 Tl
      have b_9 := chain b_8 hb
      replace kT := blk_below kT hb
      replace ht := ht.below hb
      replace hM := hM.below hb
      replace hN := hN.below hb
      replace hs := hs.below hb
      clear b_8
      clear hb
      have SN : Sn (sealO Ln b t) := sealO_sn _ _ st
      have OP : openO b TL (sealO Ln b t) = putO m t := by rw [HLN.out, ← HTL.out]; exact open_seal m b hb0 (by omega) h20 t HH.out
      have OPN := Aside0.mk OP
      clear OP
      generalize sealO Ln b t = sl at *
      have hOT : ∀ y, y ∈ TL → Sm y := fun y hy => by rw [← HTL.out] at hy; obtain ⟨z, hz, rfl⟩ := List.mem_map.1 hy; exact okt_sm (OM.out z hz)
      have lT : TL.length * 80 ≤ 140737488351232 := by rw [← HTL.out, List.length_map]; omega
      have HOT := Aside0.mk hOT
      have LT := Aside0.mk lT
      clear hOT lT
      have ou : Okt ((putO m t).getD z25) := putO_okt' OM.out ot
      obtain ⟨⟨Tc0, Tc1, Tc2, Tc3, Tc4⟩, ⟨Tf0, Tf1, Tf2, Tf3, Tf4⟩, Tl⟩ := five kT
      go_wp2_with fail
      refine (open_t b LT.out HOT.out SN hT hs).mono ?_
      rw [OPN.out]
      rintro e_ w5 ⟨U3, u3, U4, u4, rfl, hu, hb⟩
      clear Tc0 Tc1 Tc2 Tc3 Tc4 Tf0 Tf1 Tf2 Tf3 Tf4 Tl
      have b_10 := chain b_9 hb
      replace kT := blk_below kT hb
      replace ht := ht.below hb
      replace hM := hM.below hb
      replace hN := hN.below hb
      replace hs := hs.below hb
      replace hT := hT.below hb
      clear b_9
      clear hb
      have kU := blk_new w5 (.cells #[.int .i64 ((putO m t).getD z25).f0, .int .i64 ((putO m t).getD z25).f1, .string ((putO m t).getD z25).f2, .slice U3 ((putO m t).getD z25).f3.length u3, .slice U4 ((putO m t).getD z25).f4.length u4] 25)
      have hb := below_alloc1 w5 (.cells #[.int .i64 ((putO m t).getD z25).f0, .int .i64 ((putO m t).getD z25).f1, .string ((putO m t).getD z25).f2, .slice U3 ((putO m t).getD z25).f3.length u3, .slice U4 ((putO m t).getD z25).f4.length u4] 25)
      have b_11 := chain b_10 hb
      replace kT := blk_below kT hb
      replace ht := ht.below hb
      replace hM := hM.below hb
      replace hu := hu.below hb
      clear b_10
      clear hb
      obtain ⟨⟨Tc0, Tc1, Tc2, Tc3, Tc4⟩, ⟨Tf0, Tf1, Tf2, Tf3, Tf4⟩, Tl⟩ := five kT
      obtain ⟨⟨Uc0, Uc1, Uc2, Uc3, Uc4⟩, ⟨Uf0, Uf1, Uf2, Uf3, Uf4⟩, Ul⟩ := five kU
      go_wp2_with fail
      refine (put_t (m := m) (by omega) (fun y hy => okt_sm (OM.out y hy)) (okt_sm ot) hM ht).mono ?_
      rintro e_ w6 ⟨P3, p3, P4, p4, rfl, hp, hb⟩
      clear Tc0 Tc1 Tc2 Tc3 Tc4 Tf0 Tf1 Tf2 Tf3 Tf4 Tl Uc0 Uc1 Uc2 Uc3 Uc4 Uf0 Uf1 Uf2 Uf3 Uf4 Ul
      have b_12 := chain b_11 hb
      replace kT := blk_below kT hb
      replace kU := blk_below kU hb
      replace ht := ht.below hb
      replace hM := hM.below hb
      replace hu := hu.below hb
      clear b_11
      clear hb
      have kP := blk_new w6 (.cells #[.int .i64 ((putO m t).getD z25).f0, .int .i64 ((putO m t).getD z25).f1, .string ((putO m t).getD z25).f2, .slice P3 ((putO m t).getD z25).f3.length p3, .slice P4 ((putO m t).getD z25).f4.length p4] 25)
      have hb := below_alloc1 w6 (.cells #[.int .i64 ((putO m t).getD z25).f0, .int .i64 ((putO m t).getD z25).f1, .string ((putO m t).getD z25).f2, .slice P3 ((putO m t).getD z25).f3.length p3, .slice P4 ((putO m t).getD z25).f4.length p4] 25)
      have b_13 := chain b_12 hb
      replace kT := blk_below kT hb
      replace kU := blk_below kU hb
      replace ht := ht.below hb
      replace hM := hM.below hb
      replace hu := hu.below hb
      replace hp := hp.below hb
      clear b_12
      clear hb
      generalize putO m t = op at *
      have hss := same_refl (op.getD z25)
      have HSS := Aside0.mk hss
      clear hss OPN
      generalize op.getD z25 = u at *
      generalize op.isSome = ob at *
      obtain ⟨⟨Tc0, Tc1, Tc2, Tc3, Tc4⟩, ⟨Tf0, Tf1, Tf2, Tf3, Tf4⟩, Tl⟩ := five kT
      obtain ⟨⟨Uc0, Uc1, Uc2, Uc3, Uc4⟩, ⟨Uf0, Uf1, Uf2, Uf3, Uf4⟩, Ul⟩ := five kU
      obtain ⟨⟨Pc0, Pc1, Pc2, Pc3, Pc4⟩, ⟨Pf0, Pf1, Pf2, Pf3, Pf4⟩, Pl⟩ := five kP
      go_wp2_with fail
      refine (rsame_c ou _ hu hp).mono ?_
      rintro e_ w_ ⟨rfl, hb⟩
      clear Tc0 Tc1 Tc2 Tc3 Tc4 Tf0 Tf1 Tf2 Tf3 Tf4 Tl Uc0 Uc1 Uc2 Uc3 Uc4 Uf0 Uf1 Uf2 Uf3 Uf4 Ul Pc0 Pc1 Pc2 Pc3 Pc4 Pf0 Pf1 Pf2 Pf3 Pf4 Pl
      have b_14 := chain b_13 hb
      replace kT := blk_below kT hb
      replace kU := blk_below kU hb
      replace kP := blk_below kP hb
      replace ht := ht.below hb
      replace hM := hM.below hb
      replace hu := hu.below hb
      replace hp := hp.below hb
      clear b_13
      clear hb
      rw [HSS.out]
      obtain ⟨⟨Tc0, Tc1, Tc2, Tc3, Tc4⟩, ⟨Tf0, Tf1, Tf2, Tf3, Tf4⟩, Tl⟩ := five kT
      obtain ⟨⟨Uc0, Uc1, Uc2, Uc3, Uc4⟩, ⟨Uf0, Uf1, Uf2, Uf3, Uf4⟩, Ul⟩ := five kU
      obtain ⟨⟨Pc0, Pc1, Pc2, Pc3, Pc4⟩, ⟨Pf0, Pf1, Pf2, Pf3, Pf4⟩, Pl⟩ := five kP
      go_wp2_with fail
      refine (awake_c _).mono ?_
      rintro e_ w_ ⟨rfl, hb⟩
      clear Tc0 Tc1 Tc2 Tc3 Tc4 Tf0 Tf1 Tf2 Tf3 Tf4 Tl Uc0 Uc1 Uc2 Uc3 Uc4 Uf0 Uf1 Uf2 Uf3 Uf4 Ul Pc0 Pc1 Pc2 Pc3 Pc4 Pf0 Pf1 Pf2 Pf3 Pf4 Pl
      have b_15 := chain b_14 hb
      replace kT := blk_below kT hb
      replace kU := blk_below kU hb
      replace kP := blk_below kP hb
      replace ht := ht.below hb
      replace hM := hM.below hb
      replace hu := hu.below hb
      replace hp := hp.below hb
      clear b_14
      clear hb
      obtain ⟨⟨Tc0, Tc1, Tc2, Tc3, Tc4⟩, ⟨Tf0, Tf1, Tf2, Tf3, Tf4⟩, Tl⟩ := five kT
      obtain ⟨⟨Uc0, Uc1, Uc2, Uc3, Uc4⟩, ⟨Uf0, Uf1, Uf2, Uf3, Uf4⟩, Ul⟩ := five kU
      obtain ⟨⟨Pc0, Pc1, Pc2, Pc3, Pc4⟩, ⟨Pf0, Pf1, Pf2, Pf3, Pf4⟩, Pl⟩ := five kP
      go_wp2
      go_ret
      exact ⟨rfl, b_15⟩
end Go.Proofs.Ytnfnhjhnfdkinaa.PSubstPuts

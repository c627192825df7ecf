/-
  ConvKeeps: texts of this claim, put together by a program of this session. No conditions beyond what each lemma says.
-/
import Derived.Test.YtnfnhjhnfdkinaazConvKeeps27
import Derived.WalkMore
namespace Go.Proofs.Ytnfnhjhnfdkinaa.PConvBack
open Go.RowKit Go.Proofs.YtnfnhjhnfdkinaaW.Mine Go.Proofs.YtnfnhjhnfdkinaaW.PrintWords Go.Proofs.YtnfnhjhnfdkinaaW.PrintLast Go.Proofs.YtnfnhjhnfdkinaaW.PrintMore
attribute [local go_sem] max2_int min2_int max_two min_two max_three min_three max_four min_four
set_option linter.unusedVariables false
set_option linter.unusedSimpArgs false
theorem infoV : (Try.prog.info? 55).map (fun i => (i.zero, i.size, i.bytes)) = some (some (.agg #[(.int .i64 0), (.int .i64 0), (.int .i64 0), (.bool false), (.string ⟨#[]⟩), (.string ⟨#[]⟩), (.int .i64 0), (.slice none 0 0), (.slice none 0 0), (.slice none 0 0)]), 10, 144) := by kernel_rfl
theorem partsV_len {f : Vl → Ty → Option Vl} {v : Vl} {p : Ty} : ∀ {l : List ByteArray} {xs : List Vl}, partsV f v p l = some xs → xs.length = l.length
  | [], xs, h => by simp only [partsV] at h; injection h with h; subst h; rfl
  | s :: l, xs, h => by
    simp only [partsV] at h
    cases h1 : partV f v p s with
    | none => rw [h1] at h; cases h
    | some k =>
      cases h2 : partsV f v p l with
      | none => rw [h1, h2] at h; cases h
      | some ks => rw [h1, h2] at h; injection h with h; subst h; simp [partsV_len h2]
theorem partsV_snoc {f : Vl → Ty → Option Vl} {v : Vl} {p : Ty} {s : ByteArray} {k : Vl} (hk : partV f v p s = some k) : ∀ {l : List ByteArray} {xs : List Vl}, partsV f v p l = some xs → partsV f v p (l ++ [s]) = some (xs ++ [k])
  | [], xs, h => by simp only [partsV] at h; injection h with h; subst h; simp only [List.nil_append, partsV, hk]
  | a :: l, xs, h => by
    simp only [partsV] at h
    cases h1 : partV f v p a with
    | none => rw [h1] at h; cases h
    | some b =>
      cases h2 : partsV f v p l with
      | none => rw [h1, h2] at h; cases h
      | some ks => rw [h1, h2] at h; injection h with h; subst h; simp only [List.cons_append, partsV, h1, partsV_snoc hk h2]
theorem partsV_fail {f : Vl → Ty → Option Vl} {v : Vl} {p : Ty} {s : ByteArray} (hk : partV f v p s = none) (r : List ByteArray) : ∀ {l : List ByteArray} {xs : List Vl}, partsV f v p l = some xs → partsV f v p (l ++ s :: r) = none
  | [], xs, h => by simp only [List.nil_append, partsV, hk]
  | a :: l, xs, h => by
    simp only [partsV] at h
    cases h1 : partV f v p a with
    | none => rw [h1] at h; cases h
    | some b =>
      cases h2 : partsV f v p l with
      | none => rw [h1, h2] at h; cases h
      | some ks => simp only [List.cons_append, partsV, h1, partsV_fail hk r h2]
theorem take_snoc {α : Type} {l : List α} {i : Nat} (h : i < l.length) : l.take (i + 1) = l.take i ++ [l[i]] := by rw [List.take_add_one, List.getElem?_eq_getElem h]; rfl
theorem selt {w : World} {A : Option Addr} {l : List ByteArray} (h : Kd.string.C w A l.length l) (i : Nat) (hi : i < l.length) : ∃ ad, A = some ad ∧ w.cell? (ad.add i) = some (.string l[i]) := by
  obtain ⟨ad, e, hc⟩ := Kd.at_string h (i : Int) (by omega) (by omega)
  rw [Int.toNat_natCast] at hc
  exact ⟨ad, e, by rw [hc]; unfold rdOf; rw [Int.toNat_natCast, List.getD_eq_getElem?_getD, List.getElem?_eq_getElem hi]; rfl⟩
abbrev ocells (n : Nat) (A3 : Option Addr) (c3 : Nat) (A : Option Addr) (m c : Nat) : Array Value := #[.int .i64 4, .int .i64 0, .int .i64 0, .bool false, .string ⟨#[]⟩, .string ⟨#[]⟩, .int .i64 0, .slice none 0 0, .slice A3 n c3, .slice A m c]
set_option maxHeartbeats 16000000 in
set_option maxRecDepth 100000 in
theorem record_c (lo up : Int) (inn : Bool) (f : Vl → Ty → Option Vl) (v : Vl) (p : Ty) (ov : Okv v) (op : Okt p) (hT : ∀ t, t ∈ p.f4 → TurnC lo up inn f t) {ok : Nat → Prop} {A6 A7 A8 A3 A4 : Option Addr} {c6 c7 c8 c3 c4 : Nat} {w : World} (hok : ∀ k, ok k → k < w.heap.size) (hl : p.f3.length * 144 ≤ 140737488351232)
    (hv : FV w ok v A6 c6 A7 c7 A8 c8) (hp : FT w ok p A3 c3 A4 c4) :
    Calls Try.prog 100 #[wy lo up inn, vv v A6 c6 A7 c7 A8 c8, tv p A3 c3 A4 c4] w (VOut w (fun k => ok k ∨ w.heap.size ≤ k) (recordV f v p)) := by
  obtain ⟨⟨kW, kV, kP, kR⟩, b0, sz0⟩ := fourb w (wcells lo up inn) (vcells v A6 c6 A7 c7 A8 c8) (tarr p A3 c3 A4 c4) zcells 92 55 25 55
  have kO := blk_new ((((w.alloc (.cells (wcells lo up inn) 92)).alloc (.cells (vcells v A6 c6 A7 c7 A8 c8) 55)).alloc (.cells (tarr p A3 c3 A4 c4) 25)).alloc (.cells zcells 55)) (.cells (ocells p.f3.length A3 c3 none 0 0) 55)
  have bO := below_alloc1 ((((w.alloc (.cells (wcells lo up inn) 92)).alloc (.cells (vcells v A6 c6 A7 c7 A8 c8) 55)).alloc (.cells (tarr p A3 c3 A4 c4) 25)).alloc (.cells zcells 55)) (.cells (ocells p.f3.length A3 c3 none 0 0) 55)
  rw [sz0] at kO
  obtain ⟨⟨p0, p1, p2, p3, p4⟩, _, lp⟩ := five kP
  have hq : recordV f v p = match partsV f v p p.f3 with
    | none => none
    | some ks => some ⟨4, 0, 0, false, ⟨#[]⟩, z52, [], p.f3, ks⟩ := rfl
  generalize recordV f v p = o at hq ⊢
  have HQ := Aside0.mk hq
  have HT := Aside0.mk hT
  have OV := Aside0.mk ov
  have OP := Aside0.mk op
  have l3 := op.l3
  replace kW := blk_up bO kW
  replace kV := blk_up bO kV
  replace kP := blk_up bO kP
  replace kR := blk_up bO kR
  have b1 := chain b0 bO
  have KS := Aside0.mk (⟨kW, kV, kP, kR, kO, b1⟩ : _ ∧ _ ∧ _ ∧ _ ∧ _ ∧ _)
  have HV := Aside0.mk hv
  have HP := Aside0.mk hp
  have HOK := Aside0.mk hok
  have HL := Aside0.mk hl
  clear hq hT ov op kW kV kP kR kO b1 b0 bO hv hp hok hl sz0
  go_enter Try.func100, Try.ntmps100
  go_wp2_with fail
  refine wp_scope_straight ?_
  go_wp2_with fail
  refine wp_label ?_
  go_wp2_with fail
  go_loopg [21] p.f3.length (fun kq v21 w' => ∃ (i : Nat) (xs : List Vl) (A : Option Addr) (c : Nat), v21 = .int .i64 i ∧ kq + i = p.f3.length ∧ Aside0 (xs.length = i) ∧ Aside0 (partsV f v p (p.f3.take i) = some xs) ∧ Kd.N kVl 55 w' (w.heap.size + 1 + 1 + 1 + 1 + 1) (fun k => ok k ∨ w.heap.size + 1 + 1 + 1 + 1 < k) (.slice A xs.length c) xs ∧ w'.heap[w.heap.size]? = some (.cells (wcells lo up inn) 92 (0, 0)) ∧ w'.heap[w.heap.size + 1]? = some (.cells (vcells v A6 c6 A7 c7 A8 c8) 55 (0, 0)) ∧ w'.heap[w.heap.size + 1 + 1]? = some (.cells (tarr p A3 c3 A4 c4) 25 (0, 0)) ∧ w'.heap[w.heap.size + 1 + 1 + 1]? = some (.cells zcells 55 (0, 0)) ∧ w'.heap[w.heap.size + 1 + 1 + 1 + 1]? = some (.cells (ocells p.f3.length A3 c3 A xs.length c) 55 (0, 0)) ∧ Below w.heap.size w w')
  case atStart => exact ⟨0, [], none, 0, rfl, rfl, ⟨rfl⟩, ⟨rfl⟩, Kd.N_nil _ _ _ _ _, KS.out.1, KS.out.2.1, KS.out.2.2.1, KS.out.2.2.2.1, KS.out.2.2.2.2.1, KS.out.2.2.2.2.2⟩
  case round =>
    clear p0 p1 p2 p3 p4 lp KS
    obtain ⟨i, xs, A, c, rfl, hk, HXL, HXS, HO, kW, kV, kP, kR, kO, br⟩ := hrel
    by_cases hi : i < p.f3.length
    · obtain ⟨k1, rfl⟩ : ∃ k1, gk = k1 + 1 := ⟨gk - 1, by omega⟩
      have ci : decide ((i : Int) < (p.f3.length : Int)) = true := decide_eq_true (by omega)
      have i0 : (0 : Int) ≤ (i : Int) := by omega
      have i1 : (i : Int) < (p.f3.length : Int) := by omega
      obtain ⟨⟨o0, o1, o2, o3, o4, o5, o6, o7, o8, o9⟩, ⟨s0, s1, s2, s3, s4, s5, s6, s7, s8, s9⟩, lo_⟩ := ten kO
      obtain ⟨ad, hA, sx⟩ := selt (Kd.F_now HP.out.2.1) i hi
      subst hA
      replace sx := cell_up br sx
      have HK := Aside0.mk hk
      clear hk
      go_wp2_with fail
      have PC := Aside0.mk (part_c lo up inn f v p OV.out OP.out HT.out p.f3[i] (ok := ok) (fun k hk => Nat.lt_of_lt_of_le (HOK.out k hk) br.size) kV kP kW (HV.out.below br) (HP.out.below br))
      clear s0 s1 s2 s3 s4 s5 s6 s7 s8 s9 o0 o1 o2 o3 o4 o5 o6 o7 o8 o9 lo_ sx ci i0 i1
      refine PC.out.mono ?_
      clear PC
      have szr := br.size
      have hN0 := Kd.N_lt HO
      have hN1 := Kd.N_base HO
      cases hq : partV f v p p.f3[i] with
      | none =>
        have HN : Aside0 (o = none) := ⟨by
          have h1 := partsV_fail hq (p.f3.drop (i + 1)) HXS.out
          rw [← List.drop_eq_getElem_cons hi, List.take_append_drop] at h1
          rw [HQ.out, h1]⟩
        rintro e w1 ⟨hb1, rfl⟩
        clear hq HQ HO hN0 hN1
        have b1 := chain br hb1
        have bX := below_alloc1 w1 (.cells (vcells zV none 0 none 0 none 0) 55)
        have b2 := chain b1 bX
        replace kP := blk_up bX (blk_up hb1 kP)
        replace kR := blk_up bX (blk_up hb1 kR)
        replace kO := blk_up bX (blk_up hb1 kO)
        clear b1 hb1 bX br kV kW
        obtain ⟨⟨o0, o1, o2, o3, o4, o5, o6, o7, o8, o9⟩, _, lo_⟩ := ten kO
        obtain ⟨⟨p0, p1, p2, p3, p4⟩, _, lp⟩ := five kP
        obtain ⟨⟨r0, r1, r2, r3, r4, r5, r6, r7, r8, r9⟩, ⟨s0, s1, s2, s3, s4, s5, s6, s7, s8, s9⟩, lr⟩ := ten kR
        have dl0 : xs.length < p.f3.length := by have := HXL.out; omega
        have dl : decide ((xs.length : Int) < (p.f3.length : Int)) = true := decide_eq_true (by omega)
        have dl1 : decide (xs.length < p.f3.length) = true := decide_eq_true dl0
        go_wp2
        (try simp only [Exit.inBlock, Exit.then]); (try rw [Exit.noGoto_ret]); refine bodyPost_ret (results_ct rfl _ _ _ 55 _ (0, 0) _ rfl (stored10 kR _ _ _ _ _ _ _ _ _ _) Try.underlying55 rfl (by kernel_rfl)) rfl ?_
        exact VOut.no (below10 b2 (by omega) _ _ _ _ _ _ _ _ _ _) HN.out
      | some k =>
        have HXS' : Aside0 (partsV f v p (p.f3.take (i + 1)) = some (xs ++ [k])) := ⟨by rw [take_snoc hi]; exact partsV_snoc hq HXS.out⟩
        clear hq HXS
        rintro e w1 ⟨hb1, X6, e6, X7, e7, X8, e8, rfl, hfx⟩
        have hsz1 := hb1.size
        have kO0 := Aside0.mk kO
        have b1 := chain br hb1
        have kX := blk_new w1 (.cells (vcells k X6 e6 X7 e7 X8 e8) 55)
        have bX := below_alloc1 w1 (.cells (vcells k X6 e6 X7 e7 X8 e8) 55)
        have b2 := chain b1 bX
        replace kV := blk_up bX (blk_up hb1 kV)
        replace kW := blk_up bX (blk_up hb1 kW)
        replace kP := blk_up bX (blk_up hb1 kP)
        replace kR := blk_up bX (blk_up hb1 kR)
        replace kO := blk_up bX (blk_up hb1 kO)
        replace HO := Kd.N_below (Kd.N_below HO hb1) bX
        replace hfx := hfx.below bX
        clear b1 hb1 bX br
        have lX := blk_lt kX
        obtain ⟨⟨o0, o1, o2, o3, o4, o5, o6, o7, o8, o9⟩, _, lo_⟩ := ten kO
        obtain ⟨⟨x0, x1, x2, x3, x4, x5, x6, x7, x8, x9⟩, _, lx⟩ := ten kX
        have hN1' : ∀ k, (Value.slice A xs.length c).ownBlock = some k → w.heap.size + 1 + 1 + 1 + 1 < k := fun k hk => by have := hN1 k hk; omega
        have hokp : ∀ j, (ok j ∨ wr.heap.size ≤ j) → (ok j ∨ w.heap.size + 1 + 1 + 1 + 1 < j) ∧ some j ≠ (Value.slice A xs.length c).ownBlock := fun j hj => ⟨by rcases hj with hj | hj; exact .inl hj; exact .inr (by have := blk_lt kO0.out; omega), fun he => by have h1 := hN0 j he.symm; have h2 := hN1' j he.symm; rcases hj with hj | hj; (have := HOK.out j hj; omega); omega⟩
        have hbase : w.heap.size + 1 + 1 + 1 + 1 + 1 ≤ (w1.alloc (.cells (vcells k X6 e6 X7 e7 X8 e8) 55)).heap.size := by have := blk_lt kO; omega
        have hfre : ∀ j, (w1.alloc (.cells (vcells k X6 e6 X7 e7 X8 e8) 55)).heap.size ≤ j → (ok j ∨ w.heap.size + 1 + 1 + 1 + 1 < j) := fun j hj => .inr (by omega)
        have hlen : (xs ++ [k]).length = xs.length + 1 := by simp
        have hln : (xs.length + 1) * 144 ≤ 140737488355328 := by have := HL.out; have := HXL.out; omega
        have fk := hfx.fk
        have HBS := Aside0.mk hbase
        go_wp2_with (first | ((with_reducible refine gate_builtin (b := .append) (xs := #[.tmp 34, .tmp 36]) rfl ?_); at_builtin; refine Kd.N_append kVl (w0 := w1.alloc (.cells (vcells k X6 e6 X7 e7 X8 e8) 55)) (w.heap.size + 1 + 1 + 1 + 1 + 1) rfl (.tmp 34) (.tmp 36) 53 55 (.agg #[(.int .i64 0), (.int .i64 0), (.int .i64 0), (.bool false), (.string ⟨#[]⟩), (.string ⟨#[]⟩), (.int .i64 0), (.slice none 0 0), (.slice none 0 0), (.slice none 0 0)]) 144 rfl Try.underlying53 infoV rfl (by decide) (by omega) (.slice A xs.length c) xs k _ (fun j => ok j ∨ w.heap.size + 1 + 1 + 1 + 1 < j) (fun j => ok j ∨ wr.heap.size ≤ j) rfl ?qx fk hokp hfre HO (Below.refl _ _) hbase hln ?_; (case qx => rw [World.size_alloc]; rfl); intro v2 w2 hN2 hB2 hg2 hat2; obtain ⟨A2, d2, rfl⟩ := Kd.N_slice hN2; clear o0 o1 o2 o3 o4 o5 o6 o7 o8 o9 lo_ x0 x1 x2 x3 x4 x5 x6 x7 x8 x9 lx hN0 hN1 hN1' hokp hfre fk hbase HO; replace kO := (hB2.block _ (by omega)).trans kO; rw [hlen] at hN2 ⊢; obtain ⟨⟨o0, o1, o2, o3, o4, o5, o6, o7, o8, o9⟩, ⟨s0, s1, s2, s3, s4, s5, s6, s7, s8, s9⟩, lo_⟩ := ten kO))
        have kO3 := blk_put (cs' := ocells p.f3.length (some ad) c3 A2 (xs.length + 1) d2) kO 9 (.slice A2 (xs.length + 1) d2) rfl
        have kV3 := blk_far ((hB2.block _ (by omega)).trans kV) (p := ⟨w.heap.size + 1 + 1 + 1 + 1, 9, none⟩) (by dsimp only; omega) (.slice A2 (xs.length + 1) d2)
        have kP3 := blk_far ((hB2.block _ (by omega)).trans kP) (p := ⟨w.heap.size + 1 + 1 + 1 + 1, 9, none⟩) (by dsimp only; omega) (.slice A2 (xs.length + 1) d2)
        have kW3 := blk_far ((hB2.block _ (by omega)).trans kW) (p := ⟨w.heap.size + 1 + 1 + 1 + 1, 9, none⟩) (by dsimp only; omega) (.slice A2 (xs.length + 1) d2)
        have kR3 := blk_far ((hB2.block _ (by omega)).trans kR) (p := ⟨w.heap.size + 1 + 1 + 1 + 1, 9, none⟩) (by dsimp only; omega) (.slice A2 (xs.length + 1) d2)
        have hN3 := Kd.N_far hN2 (p := ⟨w.heap.size + 1 + 1 + 1 + 1, 9, none⟩) (fun j hj => by dsimp only; rcases hj with hj | hj; (have := HOK.out j hj; omega); omega) (.slice A2 (xs.length + 1) d2)
        have b3 := below_set (g := w.heap.size + 1 + 1 + 1 + 1) (j := 9) (v := .slice A2 (xs.length + 1) d2) (b2.trans (Below.mono hB2 (by omega))) (by omega)
        clear o0 o1 o2 o3 o4 o5 o6 o7 o8 o9 s0 s1 s2 s3 s4 s5 s6 s7 s8 s9 lo_ kO kV kP kW kR hN2 b2 hB2 hg2 hat2
        go_roundg k1
        case measure => omega
        case rel => exact ⟨i + 1, xs ++ [k], A2, d2, (by first | rfl | (simp; done) | (push_cast; rfl)), by have := HK.out; omega, ⟨by rw [hlen, HXL.out]⟩, HXS', by rw [hlen]; exact hN3, kW3, kV3, kP3, kR3, by rw [hlen]; exact kO3, b3⟩
    · have cn : decide ((i : Int) < (p.f3.length : Int)) = false := decide_eq_false (by omega)
      have HN : Aside0 (o = some ⟨4, 0, 0, false, ⟨#[]⟩, z52, [], p.f3, xs⟩) := ⟨by
        have h1 := HXS.out
        rw [List.take_of_length_le (by omega)] at h1
        rw [HQ.out, h1]⟩
      have dl0 : ¬ (xs.length < p.f3.length) := by have := HXL.out; omega
      have dl : decide ((xs.length : Int) < (p.f3.length : Int)) = false := decide_eq_false (by omega)
      have dl1 : decide (xs.length < p.f3.length) = false := decide_eq_false dl0
      have szr := br.size
      obtain ⟨⟨o0, o1, o2, o3, o4, o5, o6, o7, o8, o9⟩, _, lo_⟩ := ten kO
      obtain ⟨⟨p0, p1, p2, p3, p4⟩, _, lp⟩ := five kP
      obtain ⟨⟨r0, r1, r2, r3, r4, r5, r6, r7, r8, r9⟩, ⟨s0, s1, s2, s3, s4, s5, s6, s7, s8, s9⟩, lr⟩ := ten kR
      have HK := Aside0.mk hk
      clear hk HXS HQ HXL
      go_wp2
      (try simp only [Exit.inBlock, Exit.then]); (try rw [Exit.noGoto_ret]); refine bodyPost_ret (results_ct rfl _ _ _ 55 _ (0, 0) _ rfl (stored10 kR _ _ _ _ _ _ _ _ _ _) Try.underlying55 rfl (by kernel_rfl)) rfl ?_
      have hv1 := HP.out.below br
      refine VOut.yes (u := ⟨4, 0, 0, false, ⟨#[]⟩, z52, [], p.f3, xs⟩) (A6 := none) (c6 := 0) (A7 := A3) (c7 := c3) (A8 := A) (c8 := c) (below10 br (by omega) _ _ _ _ _ _ _ _ _ _) HN.out ?_
      refine (FV.stored (g := w.heap.size + 1 + 1 + 1) (ok := fun k => ok k ∨ w.heap.size + 1 + 1 + 1 + 1 < k) ⟨Nat.le_refl _, Kd.F_nil _ _ _, hv1.1, Kd.F_mono hv1.2.1 (fun k hk => .inl hk), (Kd.N_reads' HO).2.1, Kd.N_F HO⟩ (fun k hk => by rcases hk with hk | hk; (have := HOK.out k hk; omega); omega) _ _ _ _ _ _ _ _ _ _).mono (fun k hk => by rcases hk with hk | hk; exact .inl hk; exact .inr (by omega))
end Go.Proofs.Ytnfnhjhnfdkinaa.PConvBack

/-
  SitesStay: texts of this claim, put together by a program of this session. No conditions beyond what each lemma says.
-/
import Derived.Test.YtlenfmnkbepoiaazSitesStay21
import Derived.Test.YtlenfmnkbepoiaazSitesStay22
namespace Go.Proofs.Ytlenfmnkbepoiaa.PSitesTell
open Go.RowKit Go.Proofs.YtlenfmnkbepoiaaW.Mine Go.Proofs.YtlenfmnkbepoiaaW.PrintWords Go.Proofs.YtlenfmnkbepoiaaW.PrintLast Go.Proofs.YtlenfmnkbepoiaaW.PrintMore
set_option linter.unusedVariables false
mutual
def expsE : Ex → List Ex
  | ⟨a, b, c, d, ts, ls, ks⟩ => ⟨a, b, c, d, ts, ls, ks⟩ :: expsK ks
def expsK : List Ex → List Ex
  | [] => []
  | a :: l => expsE a ++ expsK l
end
theorem expsE_eq (x : Ex) : expsE x = x :: expsK x.f6 := by cases x; simp only [expsE]
theorem expsK_nil : expsK [] = [] := by simp only [expsK]
theorem expsK_cons (a : Ex) (l : List Ex) : expsK (a :: l) = expsE a ++ expsK l := by simp only [expsK]
mutual
theorem expsE_len : ∀ (x : Ex), (expsE x).length = nodesE x
  | ⟨a, b, c, d, ts, ls, ks⟩ => by rw [expsE_eq, nodesE_eq, List.length_cons, expsK_len ks]
theorem expsK_len : ∀ (l : List Ex), (expsK l).length = nodesK l
  | [] => by rw [expsK_nil, nodesK_nil]; rfl
  | a :: l => by rw [expsK_cons, nodesK_cons, List.length_append, expsE_len a, expsK_len l]
end
theorem expsK_at : ∀ (l : List Ex) (i j : Nat) (hi : i < l.length), j < nodesE l[i] → (expsK l)[nodesK (l.take i) + j]? = (expsE l[i])[j]?
  | a :: l, 0, j, _, hj => by
    simp only [List.take_zero, nodesK_nil, Nat.zero_add, List.getElem_cons_zero] at hj ⊢
    rw [expsK_cons, List.getElem?_append_left (by rw [expsE_len]; exact hj)]
  | a :: l, i + 1, j, hi, hj => by
    simp only [List.take_succ_cons, nodesK_cons, List.getElem_cons_succ] at hj ⊢
    rw [expsK_cons, List.getElem?_append_right (by rw [expsE_len]; omega), expsE_len]
    have := expsK_at l i j (by simpa using hi) hj
    rw [← this]
    congr 1
    omega
mutual
theorem expsE_ok : ∀ (x : Ex), Oke x → ∀ y, y ∈ expsE x → Oke y
  | ⟨a, b, c, d, ts, ls, ks⟩, o, y, hy => by
    rw [expsE_eq] at hy
    rcases List.mem_cons.1 hy with rfl | hy
    · exact o
    · exact expsK_ok ks o.kids y hy
theorem expsK_ok : ∀ (l : List Ex), (∀ z, z ∈ l → Oke z) → ∀ y, y ∈ expsK l → Oke y
  | [], _, y, hy => by rw [expsK_nil] at hy; cases hy
  | a :: l, o, y, hy => by
    rw [expsK_cons] at hy
    rcases List.mem_append.1 hy with hy | hy
    · exact expsE_ok a (o a List.mem_cons_self) y hy
    · exact expsK_ok l (fun z hz => o z (List.mem_cons_of_mem _ hz)) y hy
end
/-- The sites of expressions, numbered one after another. -/
def flat (n : Nat) : List Ex → List (Ty × Int)
  | [] => []
  | e :: l => e.f4.map (fun t => (t, (n : Int))) ++ flat (n + 1) l
def many : List Ex → Nat
  | [] => 0
  | e :: l => e.f4.length + many l
theorem flat_append : ∀ (a b : List Ex) (n : Nat), flat n (a ++ b) = flat n a ++ flat (n + a.length) b
  | [], b, n => by simp [flat]
  | e :: a, b, n => by
    rw [List.cons_append]
    simp only [flat, flat_append a b (n + 1), List.append_assoc, List.length_cons]
    rw [show n + 1 + a.length = n + (a.length + 1) by omega]
mutual
theorem flatE : ∀ (x : Ex) (n : Nat), n + nodesE x ≤ 100000000000000 → sitesE (n : Int) x = flat n (expsE x)
  | ⟨a, b, c, d, ts, ls, ks⟩, n, h => by
    rw [nodesE_eq] at h
    dsimp only at h
    rw [sitesE_eq, expsE_eq]
    simp only [flat]
    rw [wrap_lo (by omega) (by omega), show ((n : Int) + 1) = ((n + 1 : Nat) : Int) by omega, flatK ks (n + 1) (by omega)]
theorem flatK : ∀ (l : List Ex) (n : Nat), n + nodesK l ≤ 100000000000000 → sitesK (n : Int) l = flat n (expsK l)
  | [], n, h => by rw [sitesK_nil, expsK_nil]; rfl
  | a :: l, n, h => by
    rw [nodesK_cons] at h
    have hc : cntE a = (nodesE a : Int) := wrap_lo (by omega) (by omega)
    rw [sitesK_cons, expsK_cons, flat_append, flatE a n (by omega), hc, wrap_lo (by omega) (by omega), expsE_len, show ((n : Int) + (nodesE a : Int)) = ((n + nodesE a : Nat) : Int) by omega, flatK l (n + nodesE a) (by omega)]
end
theorem flat_len : ∀ (l : List Ex) (n : Nat), (flat n l).length = many l
  | [], n => rfl
  | e :: l, n => by simp only [flat, many, List.length_append, List.length_map, flat_len l]
theorem many_take1 : ∀ (l : List Ex) (j : Nat) (y : Ex), l[j]? = some y → many (l.take (j + 1)) = many (l.take j) + y.f4.length
  | [], j, y, h => by simp at h
  | e :: l, 0, y, h => by
    obtain rfl : e = y := by simpa using h
    simp [many]
  | e :: l, j + 1, y, h => by
    simp only [List.take_succ_cons, many]
    rw [many_take1 l j y (by simpa using h)]
    omega
theorem flat_at : ∀ (l : List Ex) (n j : Nat) (y : Ex) (i : Nat) (t : Ty), l[j]? = some y → y.f4[i]? = some t → (flat n l)[many (l.take j) + i]? = some (t, ((n + j : Nat) : Int))
  | [], n, j, y, i, t, h, _ => by simp at h
  | e :: l, n, 0, y, i, t, h, ht => by
    obtain rfl : e = y := by simpa using h
    have hi : i < e.f4.length := by obtain ⟨h, _⟩ := List.getElem?_eq_some_iff.1 ht; exact h
    simp only [flat, List.take_zero, many, Nat.zero_add, Nat.add_zero]
    rw [List.getElem?_append_left (by rw [List.length_map]; exact hi), List.getElem?_map, ht]
    rfl
  | e :: l, n, j + 1, y, i, t, h, ht => by
    simp only [flat, List.take_succ_cons, many]
    rw [List.getElem?_append_right (by rw [List.length_map]; omega), List.length_map, show e.f4.length + many (l.take j) + i - e.f4.length = many (l.take j) + i by omega, flat_at l (n + 1) j y i t (by simpa using h) ht, show n + 1 + j = n + (j + 1) by omega]
theorem many_all (d : De) (hn : nodesE d.f1 ≤ 1000000000000) : many (expsE d.f1) = numE d.f1 := by
  have h := flatE d.f1 1 (by omega)
  rw [← flat_len (expsE d.f1) 1, ← h, sitesE_len]
theorem head_len (d : De) : (d.f0.f1.map (fun b => (b.f1, (0 : Int))) ++ d.f0.f2.map (fun b => (b.f1, (0 : Int))) ++ [(d.f0.f3, (0 : Int))]).length = headN d := by
  rw [List.length_append, List.length_append, List.length_map, List.length_map]
  rfl
theorem head_at (d : De) (i : Nat) (hi : i < headN d) (hl : i < (sitesD d).length) : ((sitesD d)[i]'hl).2 = 0 := by
  have h : (sitesD d)[i]? = (d.f0.f1.map (fun b => (b.f1, (0 : Int))) ++ d.f0.f2.map (fun b => (b.f1, (0 : Int))) ++ [(d.f0.f3, (0 : Int))])[i]? := by
    unfold sitesD
    rw [List.getElem?_append_left (by rw [head_len]; exact hi)]
  rw [List.getElem?_eq_getElem hl] at h
  have hm := List.mem_of_getElem? h.symm
  rw [List.mem_append, List.mem_append] at hm
  rcases hm with (hm | hm) | hm
  · obtain ⟨b, _, hb⟩ := List.mem_map.1 hm; rw [← hb]
  · obtain ⟨b, _, hb⟩ := List.mem_map.1 hm; rw [← hb]
  · rw [List.mem_singleton.1 hm]
theorem body_at (d : De) (hn : nodesE d.f1 ≤ 1000000000000) (j i : Nat) (y : Ex) (t : Ty) (hj : (expsE d.f1)[j]? = some y) (hi : y.f4[i]? = some t) (k : Nat) (hk : k = headN d + (many ((expsE d.f1).take j) + i)) (hl : k < (sitesD d).length) : (sitesD d)[k]'hl = (t, ((1 + j : Nat) : Int)) := by
  have h : (sitesD d)[k]? = some (t, ((1 + j : Nat) : Int)) := by
    unfold sitesD
    rw [List.getElem?_append_right (by rw [head_len]; omega), head_len, show k - headN d = many ((expsE d.f1).take j) + i by omega, show (1 : Int) = ((1 : Nat) : Int) from rfl, flatE d.f1 1 (by omega)]
    exact flat_at (expsE d.f1) 1 j y i t hj hi
  rw [List.getElem?_eq_getElem hl] at h
  exact Option.some.inj h
theorem body_lt (d : De) (hn : nodesE d.f1 ≤ 1000000000000) (j i : Nat) (y : Ex) (hj : (expsE d.f1)[j]? = some y) (hi : i < y.f4.length) : headN d + (many ((expsE d.f1).take j) + i) < (sitesD d).length := by
  have h := flat_at (expsE d.f1) 1 j y i y.f4[i] hj (List.getElem?_eq_getElem hi)
  obtain ⟨h1, _⟩ := List.getElem?_eq_some_iff.1 h
  rw [flat_len, many_all d hn] at h1
  rw [sitesD_len]
  show d.f0.f1.length + d.f0.f2.length + 1 + _ < _
  omega
end Go.Proofs.Ytlenfmnkbepoiaa.PSitesTell
namespace Go.Proofs.Ytlenfmnkbepoiaa.PSitesTell
open Go.RowKit Go.Proofs.YtlenfmnkbepoiaaW.Mine Go.Proofs.YtlenfmnkbepoiaaW.PrintWords Go.Proofs.YtlenfmnkbepoiaaW.PrintLast Go.Proofs.YtlenfmnkbepoiaaW.PrintMore
attribute [local go_sem] max2_int min2_int max_two min_two max_three min_three max_four min_four
set_option linter.unusedVariables false
set_option linter.unusedSimpArgs false
theorem FE.kq3 {w a : World} {S ok : Nat → Prop} {x : Ex} {A4 A5 A6 : Option Addr} {c4 c5 c6 : Nat} (h : FE w ok x A4 c4 A5 c5 A6 c6) (k : Kq S w a) (hk : ∀ i, ok i → ¬ S i) : FE a ok x A4 c4 A5 c5 A6 c6 := FE.kq h k hk
theorem wrap_sub1 (a j : Nat) (h : a + j ≤ 1000000000000000) : wrap64 (wrap64 (((a + j : Nat) : Int) - (a : Int)) + 1) = ((j + 1 : Nat) : Int) := by unfold wrap64; omega
def XtOut (ok : Nat → Prop) (y : Ex) (w : World) (e : Ending) (w' : World) : Prop :=
  ∃ (Z4 : Option Addr) (m4 : Nat) (Z5 : Option Addr) (m5 : Nat) (Z6 : Option Addr) (m6 : Nat), e = .returned (.tuple #[ev y Z4 m4 Z5 m5 Z6 m6, .bool true]) ∧ FE w' ok y Z4 m4 Z5 m5 Z6 m6 ∧ Below w.heap.size w w'
def At14 (x : Ex) : Prop := ∀ (ok : Nat → Prop) (kk : Nat) (y : Ex) (A4 : Option Addr) (c4 : Nat) (A5 : Option Addr) (c5 : Nat) (A6 : Option Addr) (c6 : Nat) (w : World), (∀ b, ok b → b < w.heap.size) → 1 ≤ kk → (expsE x)[kk - 1]? = some y → FE w ok x A4 c4 A5 c5 A6 c6 →
  Calls Try.prog 25 #[ev x A4 c4 A5 c5 A6 c6, .int .i64 (kk : Int)] w (XtOut ok y w)
set_option maxHeartbeats 8000000 in
set_option maxRecDepth 100000 in
theorem at14_one (x : Ex) (o : Oke x) (hn : nodesE x ≤ 1000000000000) (hs : ∀ y, y ∈ x.f6 → At14 y) : At14 x := by
  intro ok kk y A4 c4 A5 c5 A6 c6 w hok hkk hat hA
  obtain ⟨kP, kR, b0, z0⟩ := twoA w (ecells x A4 c4 A5 c5 A6 c6) zecells 31 31
  have HA := Aside0.mk (hA.below b0)
  have HO := Aside0.mk (And.intro o hn)
  have HS := Aside0.mk hs
  have B0 := Aside0.mk b0
  have HOK := Aside0.mk hok
  have HZ := Aside0.mk z0
  have hkn : kk - 1 < nodesE x := by
    obtain ⟨h, _⟩ := List.getElem?_eq_some_iff.1 hat
    rw [expsE_len] at h
    exact h
  have l6 := o.l112
  obtain ⟨⟨p0, p1, p2, p3, p4, p5, p6⟩, -, lp⟩ := seven kP
  by_cases h1 : kk = 1
  · subst h1
    have hy : x = y := by rw [expsE_eq] at hat; simpa using hat
    subst hy
    have HKP := Aside0.mk kP
    have KR := Aside0.mk kR
    clear hA o hn hs b0 hok z0 hkn l6 hat hkk kR
    go_enter Try.func25, Try.ntmps25
    go_wp2_with (first
      | (refine wpList_load_row rfl 31 (.tmp 2) rfl (w.heap.size) rfl _ _ (0, 0) _ HKP.out Try.underlying31 rfl (by kernel_rfl) ?_)
      | (refine wpList_store_row rfl 31 (.tmp 4) (.tmp 11) rfl (w.heap.size + 1) (ecells x A4 c4 A5 c5 A6 c6) rfl rfl _ _ KR.out (by kernel_rfl) rfl (by simp [Value.oneCell']) ?_)
      | fail)
    (try simp only [Exit.inBlock, Exit.then])
    refine bodyPost_ret (results_ct rfl _ _ _ 31 _ (0, 0) _ rfl (setRow_heap _ (w.heap.size + 1) _ (ecells x A4 c4 A5 c5 A6 c6) _ _ KR.out) Try.underlying31 rfl (by kernel_rfl)) rfl ?_
    have hq : Kq (fun b => b = w.heap.size + 1) _ _ := Kq.setRow (g := w.heap.size + 1) ((w.alloc (.cells (ecells x A4 c4 A5 c5 A6 c6) 31)).alloc (.cells zecells 31)) (ecells x A4 c4 A5 c5 A6 c6)
    exact ⟨A4, c4, A5, c5, A6, c6, rfl, HA.out.kq3 hq (fun b hb he => by have := HOK.out b hb; omega), B0.out.trans (hq.below (by have := HZ.out; omega) (fun k hk h => by omega))⟩
  have e1 : ((kk : Int) == 1) = false := beq_eq_false_iff_ne.2 (by omega)
  have d1 : decide ((kk : Int) < 1) = false := decide_eq_false (by omega)
  have d2 : decide (kk < 1) = false := decide_eq_false (by omega)
  have HK := Aside0.mk (And.intro hkk (And.intro hkn (And.intro hat (nodesE_eq x))))
  have HI := Aside0.mk h1
  clear hA o hn hs b0 hok hkk hkn hat p0 p1 p2 p3 p4 p5 h1
  go_enter Try.func25, Try.ntmps25
  go_wp2_with fail
  generalize hW1 : (w.alloc _).alloc _ = W1 at p6 lp HA B0 HZ kR kP z0 ⊢
  clear hW1 kP e1 d1 d2
  go_loopg [6, 7, 8] x.f6.length (fun kq v6 v7 v8 w' => ∃ (i a : Nat), v6 = .int .i64 a ∧ a = 2 + nodesK (x.f6.take i) ∧ a ≤ kk ∧ v7 = .int .i64 i ∧ kq + i = x.f6.length ∧ Below W1.heap.size W1 w')
  case atStart => exact ⟨0, 2, rfl, by simp [nodesK_nil], by have := HK.out.1; have := HI.out; omega, rfl, rfl, Below.refl _ _⟩
  case round =>
    obtain ⟨i, a, rfl, haa, hak, rfl, hk, br⟩ := hrel
    have p6r := cell_up br p6
    have kRr := blk_below kR br
    by_cases hi : i < x.f6.length
    · obtain ⟨k1, rfl⟩ : ∃ k1, gk = k1 + 1 := ⟨gk - 1, by omega⟩
      have ci : decide ((i : Int) < (x.f6.length : Int)) = true := decide_eq_true (by omega)
      have ci2 : decide (i < x.f6.length) = true := decide_eq_true hi
      have i0 : (0 : Int) ≤ (i : Int) := by omega
      have i1 : (i : Int) < (x.f6.length : Int) := by omega
      have hmm := List.getElem_mem hi
      have hkm := nodesK_mem x.f6 i hi
      have hkt := nodesK_take1 x.f6 i hi
      have hx1 := HK.out.2.2.2
      have hxn := HO.out.2
      obtain ⟨ad, X4, e4, X5, e5, X6, e6, hE, fx, y0, y1, y2, y3, y4, y5, y6⟩ := eelt (HA.out.below br).2.2.2.2.2 i hi
      subst hE
      have HC := Aside0.mk (count14 x.f6[i] (HO.out.1.kids _ hmm) (by omega) _ _ _ _ _ _ wr fx.re)
      have HN := Aside0.mk (HS.out _ hmm)
      have HAT := Aside0.mk (fun j hj => expsK_at x.f6 i j hi hj)
      have FX := Aside0.mk fx
      obtain ⟨c, hc⟩ : ∃ c, nodesE x.f6[i] = c := ⟨_, rfl⟩
      rw [hc] at hkm hkt
      have hl9 : a + c ≤ 1000000000000000 := by omega
      have hk2 : k1 + (i + 1) = x.f6.length := by omega
      have ha2 : a + c = 2 + nodesK (x.f6.take (i + 1)) := by omega
      have hi9 : i < 9223372036854775807 := by omega
      have h2 := wrap_add a c hl9
      obtain ⟨s, hs⟩ : ∃ s, s = a + c := ⟨_, rfl⟩
      rw [← hs] at h2
      have HC2 := Aside0.mk hc
      have H2 := Aside0.mk (And.intro hk2 (And.intro ha2 (And.intro haa (And.intro hs hl9))))
      have hw2 := wrap_i hi9
      have HI9 := Aside0.mk hi9
      have cg : decide ((a : Int) ≤ (kk : Int)) = true := decide_eq_true (by clear h2; omega)
      have cg1 : decide (a ≤ kk) = true := decide_eq_true hak
      have cg2 : decide ((kk : Int) ≥ (a : Int)) = true := cg
      have HAK := Aside0.mk hak
      have BR := Aside0.mk br
      clear hmm hkm hkt fx hx1 hxn haa hc hk2 ha2 hi9 hl9 hak hk br
      go_wp2_with fail
      refine HC.out.mono ?_
      rintro e_ w3 ⟨rfl, hb⟩
      rw [HC2.out]
      have BR2 := Aside0.mk (BR.out.trans (hb.mono BR.out.size))
      have FX2 := Aside0.mk (FX.out.below hb)
      have p6s := cell_up hb p6r
      replace kRr := blk_below kRr hb
      replace y0 := cell_up hb y0
      replace y1 := cell_up hb y1
      replace y2 := cell_up hb y2
      replace y3 := cell_up hb y3
      replace y4 := cell_up hb y4
      replace y5 := cell_up hb y5
      replace y6 := cell_up hb y6
      clear HC hb p6r BR FX
      by_cases hkm : kk < s
      · have cm : decide ((kk : Int) < (s : Int)) = true := decide_eq_true (by clear h2 hw2; omega)
        have cm2 : decide (kk < s) = true := decide_eq_true hkm
        obtain ⟨j, hj⟩ : ∃ j, kk = a + j := ⟨kk - a, by have := HAK.out; omega⟩
        have hjn : j < nodesE x.f6[i] := by rw [HC2.out]; have := H2.out.2.2.2.1; clear h2 hw2; omega
        have hsub := wrap_sub1 a j (by have := H2.out.2.2.2; clear h2 hw2; omega)
        rw [← hj] at hsub
        have hex : (expsE x.f6[i])[j + 1 - 1]? = some y := by
          have h3 := HAT.out j hjn
          have h4 := HK.out.2.2.1
          rw [expsE_eq, show kk - 1 = (nodesK (x.f6.take i) + j) + 1 by have := H2.out.2.2.1; clear h2 hw2 hsub; omega, List.getElem?_cons_succ, h3] at h4
          exact h4
        have hz3 : w.heap.size + 2 ≤ w3.heap.size := by have := BR2.out.size; have := HZ.out; clear h2 hw2 hsub; omega
        have HN2 := Aside0.mk (HN.out ok (j + 1) y _ _ _ _ _ _ w3 (fun b hb => by have := HOK.out b hb; clear h2 hw2 hsub; omega) (by clear h2 hw2 hsub; omega) hex FX2.out)
        have HZ3 := Aside0.mk hz3
        clear HN hex hjn hkm hs hj hz3 hw2 z0 l6 kR
        go_wp2_with fail
        (try rw [hsub])
        refine HN2.out.mono ?_
        rintro e_ w4 ⟨Z4, m4, Z5, m5, Z6, m6, rfl, hf, hb4⟩
        replace kRr := blk_below kRr hb4
        have KR := Aside0.mk kRr
        have HF := Aside0.mk hf
        have B4 := Aside0.mk (B0.out.trans ((BR2.out.trans (hb4.mono BR2.out.size)).mono B0.out.size))
        clear hf hb4 kRr h2 hsub HN2
        go_wp2_with (first
          | (refine wpList_store_row rfl 31 (.tmp 4) (.tmp 48) rfl (w.heap.size + 1) (ecells y Z4 m4 Z5 m5 Z6 m6) rfl rfl _ _ KR.out (by kernel_rfl) rfl (by simp [Value.oneCell']) ?_)
          | fail)
        (try simp only [Exit.inBlock, Exit.then])
        refine bodyPost_ret (results_ct rfl _ _ _ 31 _ (0, 0) _ rfl (setRow_heap _ (w.heap.size + 1) _ (ecells y Z4 m4 Z5 m5 Z6 m6) _ _ KR.out) Try.underlying31 rfl (by kernel_rfl)) rfl ?_
        have hq : Kq (fun b => b = w.heap.size + 1) _ _ := Kq.setRow (g := w.heap.size + 1) w4 (ecells y Z4 m4 Z5 m5 Z6 m6)
        exact ⟨Z4, m4, Z5, m5, Z6, m6, rfl, HF.out.kq3 hq (fun b hb he => by have := HOK.out b hb; omega), B4.out.trans (hq.below (by have := B4.out.size; omega) (fun k hk h => by omega))⟩
      · have cm : decide ((kk : Int) < (s : Int)) = false := decide_eq_false (by clear h2 hw2; omega)
        have cm2 : decide (kk < s) = false := decide_eq_false hkm
        have HKM := Aside0.mk (show s ≤ kk by clear h2 hw2; omega)
        clear hkm hs y0 y1 y2 y3 y4 y5 y6 kRr HN
        go_wp2
        go_roundg k1
        case measure => clear h2 hw2; omega
        case rel => exact ⟨i + 1, s, (by first | rfl | (rw [h2]; rfl) | (rw [h2])), H2.out.2.2.2.1.trans H2.out.2.1, HKM.out, (by first | rfl | (rw [wrap_up HI9.out])), H2.out.1, BR2.out⟩
    · exfalso
      rw [List.take_of_length_le (by omega)] at haa
      obtain ⟨h0, h3, _, h5⟩ := HK.out
      omega
theorem at14_n : ∀ (n : Nat) (x : Ex), SizeOf.sizeOf x < n → Oke x → nodesE x ≤ 1000000000000 → At14 x
  | 0, x, h, _, _ => absurd h (Nat.not_lt_zero _)
  | n + 1, x, h, ho, hn => at14_one x ho hn fun y hy => at14_n n y (by have := size_kids x y hy; omega) (ho.kids y hy) (by
      obtain ⟨i, hi, rfl⟩ := List.getElem_of_mem hy
      have := nodesK_mem x.f6 i hi
      rw [nodesE_eq] at hn
      omega)
theorem at14 (x : Ex) (h : Oke x) (hn : nodesE x ≤ 1000000000000) : At14 x := at14_n _ x (Nat.lt_succ_self _) h hn
end Go.Proofs.Ytlenfmnkbepoiaa.PSitesTell
namespace Go.Proofs.Ytlenfmnkbepoiaa.PSitesTell
open Go.RowKit Go.Proofs.YtlenfmnkbepoiaaW.Mine Go.Proofs.YtlenfmnkbepoiaaW.PrintWords Go.Proofs.YtlenfmnkbepoiaaW.PrintLast Go.Proofs.YtlenfmnkbepoiaaW.PrintMore
attribute [local go_sem] max2_int min2_int max_two min_two max_three min_three max_four min_four
set_option linter.unusedVariables false
set_option linter.unusedSimpArgs false
set_option maxHeartbeats 8000000 in
set_option maxRecDepth 100000 in
theorem nodes_c (d : De) (ho : OkD d) (hs : Small d) {A1 A2 A3 A4 K4 K5 K6 : Option Addr} {c1 c2 c3 c4 k4 k5 k6 : Nat} {w : World} (hd : RD w d A1 c1 A2 c2 A3 c3 A4 c4 K4 k4 K5 k5 K6 k6) :
    Calls Try.prog 5 #[dv d A1 c1 A2 c2 A3 c3 A4 c4 K4 k4 K5 k5 K6 k6] w fun e w' => e = .returned (.bool true) ∧ Below w.heap.size w w' := by
  have kD := blk_new w (.cells (dcells d A1 c1 A2 c2 A3 c3 A4 c4 K4 k4 K5 k5 K6 k6) 33)
  have b0 := below_alloc1 w (.cells (dcells d A1 c1 A2 c2 A3 c3 A4 c4 K4 k4 K5 k5 K6 k6) 33)
  have hd0 := hd.below b0
  have HA := Aside0.mk (fun W => @awake17_c W)
  have HM1 := Aside0.mk (muchd d ho hd0)
  have HD0 := Aside0.mk hd0
  have HO := Aside0.mk (And.intro ho hs)
  have B0 := Aside0.mk b0
  have hsn := hs.n
  have HSN := Aside0.mk (And.intro hs.2 hsn)
  clear hd hd0 ho hs b0 hsn
  go_enter Try.func5, Try.ntmps5
  go_wp2_with (first
    | (refine wpList_load_row rfl 33 (.tmp 1) rfl (w.heap.size) rfl _ _ (0, 0) _ kD Try.underlying33 rfl (by kernel_rfl) ?_)
    | fail)
  refine HM1.out.mono ?_
  rintro e_ w1 ⟨r1, rfl, hb1⟩
  have B1 := Aside0.mk (B0.out.trans (hb1.mono B0.out.size))
  have HD1 := Aside0.mk (HD0.out.below hb1)
  replace kD := blk_below kD hb1
  clear HM1 HD0 B0 hb1
  by_cases hr1 : 500 < r1
  · have d1 : decide (500 < r1) = true := decide_eq_true hr1
    have d1' : decide (r1 > 500) = true := d1
    clear hr1
    go_wp2_with fail
    refine (HA.out _).mono ?_
    rintro e_ w2 ⟨rfl, hb2⟩
    have b2 := B1.out.trans (hb2.mono B1.out.size)
    go_wp2
    go_ret
    exact ⟨rfl, b2⟩
  have d1 : decide (500 < r1) = false := decide_eq_false hr1
  clear hr1
  obtain ⟨nb, hnb⟩ : ∃ z, d.f0.f1.length = z := ⟨_, rfl⟩
  obtain ⟨np, hnp⟩ : ∃ z, d.f0.f2.length = z := ⟨_, rfl⟩
  have h9 : nb + np ≤ 1000000000000 := by have := HSN.out.2; omega
  obtain ⟨s1, hs1⟩ : ∃ z, z = nb + np := ⟨_, rfl⟩
  obtain ⟨h, hh⟩ : ∃ z, z = s1 + 1 := ⟨_, rfl⟩
  have HH := Aside0.mk (show headN d = h by show d.f0.f1.length + d.f0.f2.length + 1 = h; omega)
  have g1 : wrap64 ((nb : Int) + (np : Int)) = (s1 : Int) := by rw [hs1]; exact wrap_add nb np (by omega)
  have g2 : wrap64 ((s1 : Int) + 1) = (h : Int) := by rw [hh, wrap_i (by omega)]; rfl
  have H9 := Aside0.mk (show h ≤ 1000000000001 by clear g1 g2; omega)
  obtain ⟨N, hN⟩ : ∃ z, nodesE d.f1 = z := ⟨_, rfl⟩
  have HN := Aside0.mk hN
  have HKD := Aside0.mk kD
  obtain ⟨⟨p0, p1, p2, p3, p4, p5, p6, p7, p8, p9, p10, p11, p12, p13, p14⟩, -, lp⟩ := fifteen kD
  rw [hnb] at p1
  rw [hnp] at p2
  clear hs1 hh h9 hN hnb hnp kD p0 p3 p4 p5 p6 p7 p8 p9 p10 p11 p12 p13 p14
  go_wp2_with fail
  (try rw [g1])
  (try rw [g2])
  clear p1 p2 g1 g2 lp
  go_loopg [4, 5] N (fun kq v4 v5 w' => ∃ (j k : Nat), v4 = .int .i64 (k : Int) ∧ v5 = .int .i64 ((j + 1 : Nat) : Int) ∧ kq + j = N ∧ k = h + many ((expsE d.f1).take j) ∧ Below w1.heap.size w1 w')
  case atStart => exact ⟨0, h, rfl, rfl, rfl, by simp [many], Below.refl _ _⟩
  case round =>
    obtain ⟨j, k, rfl, rfl, hk, hkj, br⟩ := hrel
    have kD := blk_below HKD.out br
    obtain ⟨⟨p0, p1, p2, p3, p4, p5, p6, p7, p8, p9, p10, p11, p12, p13, p14⟩, -, lp⟩ := fifteen kD
    have HC := Aside0.mk (count14 d.f1 HO.out.1.2 HSN.out.1 _ _ _ _ _ _ wr (HD1.out.2.below br))
    rw [HN.out] at HC
    have HDr := Aside0.mk (HD1.out.below br)
    have BR := Aside0.mk br
    clear br
    go_wp2_with fail
    refine HC.out.mono ?_
    rintro e_ w2 ⟨rfl, hb2⟩
    have kD2 := blk_below kD hb2
    have B2 := Aside0.mk (BR.out.trans (hb2.mono BR.out.size))
    have HD2 := Aside0.mk (HDr.out.below hb2)
    clear p0 p1 p2 p3 p4 p5 p6 p7 p8 p9 p10 p11 p12 p13 p14 lp kD HC HDr BR hb2
    by_cases hj : j < N
    · have c1 : decide ((j : Int) + 1 ≤ (N : Int)) = true := decide_eq_true (by omega)
      have c2 : decide (j + 1 ≤ N) = true := decide_eq_true hj
      obtain ⟨k1, rfl⟩ : ∃ k1, gk = k1 + 1 := ⟨gk - 1, by omega⟩
      have hje : j < (expsE d.f1).length := by rw [expsE_len, HN.out]; exact hj
      obtain ⟨y, hy⟩ : ∃ z, (expsE d.f1)[j]? = some z := ⟨_, List.getElem?_eq_getElem hje⟩
      have HY := Aside0.mk (And.intro hy (And.intro (expsE_ok d.f1 HO.out.1.2 y (List.mem_of_getElem? hy)) (many_take1 _ j y hy)))
      have HX := Aside0.mk (at14 d.f1 HO.out.1.2 HSN.out.1 (fun b => b < w2.heap.size) (j + 1) y _ _ _ _ _ _ w2 (fun b hb => hb) (by omega) hy HD2.out.2.fe)
      have HK := Aside0.mk (And.intro hk (And.intro hkj hj))
      clear hje hy hk hkj hj
      obtain ⟨⟨p0, p1, p2, p3, p4, p5, p6, p7, p8, p9, p10, p11, p12, p13, p14⟩, -, lp⟩ := fifteen kD2
      go_wp2_with fail
      refine HX.out.mono ?_
      rintro e_ wa ⟨Z4, m4, Z5, m5, Z6, m6, rfl, hra, hba⟩
      dsimp only at hra ⊢
      clear p0 p1 p2 p3 p4 p5 p6 p7 p8 p9 p10 p11 p12 p13 p14 lp
      have kA := blk_new wa (.cells (ecells y Z4 m4 Z5 m5 Z6 m6) 31)
      have bA := below_alloc1 wa (.cells (ecells y Z4 m4 Z5 m5 Z6 m6) 31)
      have zA := World.size_alloc wa (.cells (ecells y Z4 m4 Z5 m5 Z6 m6) 31)
      have hab := hba.trans (bA.mono hba.size)
      replace kD2 := blk_below kD2 hab
      have HD3 := Aside0.mk (And.intro (HD2.out.below hab) (hra.re.below bA))
      have B3 := Aside0.mk (B2.out.trans (hab.mono B2.out.size))
      clear hra hba bA hab HX HD2 B2 zA
      have HKA := Aside0.mk (And.intro kD2 kA)
      clear kA kD2
      go_wp2_with fail
      generalize hWA : wa.alloc _ = WA at HKA HD3 B3 ⊢
      obtain ⟨L, hL⟩ : ∃ z, y.f4.length = z := ⟨_, rfl⟩
      have HL := Aside0.mk hL
      clear hWA hL
      go_loopg [4, 8] L (fun kq v4 v8 w' => ∃ (i : Nat), v4 = .int .i64 ((k + i : Nat) : Int) ∧ v8 = .int .i64 (i : Int) ∧ kq + i = L ∧ Below WA.heap.size WA w')
      case atStart => exact ⟨0, rfl, rfl, rfl, Below.refl _ _⟩
      case round =>
        obtain ⟨i, rfl, rfl, hki, br⟩ := hrel
        obtain ⟨kD, kA⟩ := HKA.out
        replace kD := blk_below kD br
        replace kA := blk_below kA br
        have HDr := Aside0.mk (And.intro (HD3.out.1.below br) (HD3.out.2.below br))
        obtain ⟨⟨a0, a1, a2, a3, a4, a5, a6⟩, -, la⟩ := seven kA
        rw [HL.out] at a4
        by_cases hi : i < L
        · obtain ⟨k2, rfl⟩ : ∃ k2, gk = k2 + 1 := ⟨gk - 1, by omega⟩
          have ci : decide ((i : Int) < (L : Int)) = true := decide_eq_true (by omega)
          have ci2 : decide (i < L) = true := decide_eq_true hi
          have hiy : i < y.f4.length := by rw [HL.out]; exact hi
          have hkl : k + i < (sitesD d).length := by have h1 := body_lt d HSN.out.1 j i y HY.out.1 hiy; rw [HH.out] at h1; have := HK.out.2.1; omega
          have hsi := body_at d HSN.out.1 j i y y.f4[i] HY.out.1 (List.getElem?_eq_getElem hiy) (k + i) (by rw [HH.out]; have := HK.out.2.1; omega) hkl
          have HA2 := Aside0.mk (at_l d HO.out.1 HO.out.2 (k + i) hkl HDr.out.1)
          rw [hsi] at HA2
          obtain ⟨ad, X3, e3, X4, e4, hE, fx, y0, y1, y2, y3, y4⟩ := elt (Kd.C_F heapTy HDr.out.2.2.1) i hiy
          have HOB := Aside0.mk (HY.out.2.1.types _ (List.getElem_mem hiy))
          obtain ⟨tB, htB⟩ : ∃ z, y.f4[i] = z := ⟨_, rfl⟩
          rw [htB] at HOB HA2 fx y0 y1 y2 y3 y4
          have FX := Aside0.mk fx.rt
          subst hE
          have BR := Aside0.mk br
          have hi9 : i < 9223372036854775807 := by have := HSN.out.2; have := sitesD_len d; omega
          have hk9 : k + i < 9223372036854775807 := by have := HSN.out.2; have := sitesD_len d; omega
          have HI := Aside0.mk (And.intro hki (And.intro hi9 hk9))
          have i0 : (0 : Int) ≤ (i : Int) := by omega
          have i1 : (i : Int) < (y.f4.length : Int) := by omega
          clear fx hki hiy hkl hsi htB br hi9 hk9
          go_wp2_with (first
            | (refine wpList_load_row rfl 33 (.tmp 1) rfl (w.heap.size) rfl _ _ (0, 0) _ kD Try.underlying33 rfl (by kernel_rfl) ?_)
            | fail)
          refine HA2.out.mono ?_
          rintro e_ wb ⟨Q3, q3, Q4, q4, rfl, hrb, hbb⟩
          dsimp only at hrb ⊢
          have kB := blk_new wb (.cells (tarr tB Q3 q3 Q4 q4) 26)
          have bB := below_alloc1 wb (.cells (tarr tB Q3 q3 Q4 q4) 26)
          have hbb2 := hbb.trans (bB.mono hbb.size)
          have sB := blk_lt (blk_below kA hbb)
          have HR3 := Aside0.mk (And.intro (hrb.below bB) (FX.out.below hbb2))
          have B3r := Aside0.mk (BR.out.trans (hbb2.mono BR.out.size))
          replace a4 := cell_up hbb2 a4
          replace y0 := cell_up hbb2 y0
          replace y1 := cell_up hbb2 y1
          replace y2 := cell_up hbb2 y2
          replace y3 := cell_up hbb2 y3
          replace y4 := cell_up hbb2 y4
          obtain ⟨⟨b0, b1, b2, b3, b4⟩, -, lb⟩ := five kB
          rw [← HL.out] at a4
          clear hrb hbb bB hbb2 HA2 BR kA kD a0 a1 a2 a3 a5 a6 la kB FX
          have eN : ((1 + (j : Int)) != ((j : Int) + 1)) = false := by rw [Int.add_comm]; simp
          go_wp2_with fail
          generalize hW9 : wb.alloc _ = W9 at a4 y0 y1 y2 y3 y4 b0 b1 b2 b3 b4 lb HR3 B3r ⊢
          clear hW9
          refine wp_region_held_drew (S := (fun w' => Below W9.heap.size W9 w' ∧ w'.cell? ⟨wb.heap.size, 0, none⟩ = some (.int .i64 tB.f0) ∧ w'.cell? ⟨wb.heap.size, 1, none⟩ = some (.int .i64 tB.f1) ∧ w'.cell? ⟨wb.heap.size, 2, none⟩ = some (.string tB.f2) ∧ w'.cell? ⟨wb.heap.size, 3, none⟩ = some (.slice Q3 tB.f3.length q3) ∧ w'.cell? ⟨wb.heap.size, 4, none⟩ = some (.slice Q4 tB.f4.length q4) ∧ w'.cell? ⟨wa.heap.size, 4, none⟩ = some (.slice (some ad) y.f4.length m4) ∧ w'.cell? (ad.add (i * 5)) = some (.int .i64 tB.f0) ∧ w'.cell? ⟨(ad.add (i * 5)).block, (ad.add (i * 5)).off + 1, none⟩ = some (.int .i64 tB.f1) ∧ w'.cell? ⟨(ad.add (i * 5)).block, (ad.add (i * 5)).off + 2, none⟩ = some (.string tB.f2) ∧ w'.cell? ⟨(ad.add (i * 5)).block, (ad.add (i * 5)).off + 3, none⟩ = some (.slice X3 tB.f3.length e3) ∧ w'.cell? ⟨(ad.add (i * 5)).block, (ad.add (i * 5)).off + 4, none⟩ = some (.slice X4 tB.f4.length e4))) (by kernel_rfl) ?_ (fun hHeld => ?_)
          · (try dsimp only)
            (refine and_of (fun hB_ => ⟨cell_up hB_ b0, cell_up hB_ b1, cell_up hB_ b2, cell_up hB_ b3, cell_up hB_ b4, cell_up hB_ a4, cell_up hB_ y0, cell_up hB_ y1, cell_up hB_ y2, cell_up hB_ y3, cell_up hB_ y4⟩) ?_; first | (with_reducible exact (Below.refl _ _).drew) | (with_reducible exact below_call' (And.left (by assumption)) (by assumption)) | (with_reducible exact And.left (by assumption)))
          (first | (refine take_held (i := 0) (d := (some 59)) (v := ?_) rfl rfl (by kernel_rfl) (by kernel_rfl) (by kernel_rfl) (fun _ _ _ h => h) (Or.inl ⟨by rfl, ?_⟩) (by assumption) ?_; rotate_left 1; focus ((intro w hSw; (try dsimp only at hSw); first | (go_simp; done) | (go_simp; with_reducible rfl)); done); (try simp only [Act.put, List.setIfInBounds_toArray, List.set_cons_zero, List.set_cons_succ])))
          (try simp only [Act.put, List.setIfInBounds_toArray, List.set_cons_zero, List.set_cons_succ])
          (first | (refine take_held (i := 1) (d := (some 60)) (v := ?_) rfl rfl (by kernel_rfl) (by kernel_rfl) (by kernel_rfl) (fun _ _ _ h => h) (Or.inl ⟨by rfl, ?_⟩) (by assumption) ?_; rotate_left 1; focus ((intro w hSw; (try dsimp only at hSw); first | (go_simp; done) | (go_simp; with_reducible rfl)); done); (try simp only [Act.put, List.setIfInBounds_toArray, List.set_cons_zero, List.set_cons_succ])))
          (try simp only [Act.put, List.setIfInBounds_toArray, List.set_cons_zero, List.set_cons_succ])
          (first | (refine take_held (i := 2) (d := (some 61)) (v := ?_) rfl rfl (by kernel_rfl) (by kernel_rfl) (by kernel_rfl) (fun _ _ _ h => h) (Or.inl ⟨by rfl, ?_⟩) (by assumption) ?_; rotate_left 1; focus ((intro w hSw; (try dsimp only at hSw); first | (go_simp; done) | (go_simp; with_reducible rfl)); done); (try simp only [Act.put, List.setIfInBounds_toArray, List.set_cons_zero, List.set_cons_succ])))
          (try simp only [Act.put, List.setIfInBounds_toArray, List.set_cons_zero, List.set_cons_succ])
          (first | (refine take_held (i := 3) (d := (some 62)) (v := ?_) rfl rfl (by kernel_rfl) (by kernel_rfl) (by kernel_rfl) (fun _ _ _ h => h) (Or.inl ⟨by rfl, ?_⟩) (by assumption) ?_; rotate_left 1; focus ((intro w hSw; (try dsimp only at hSw); first | (go_simp; done) | (go_simp; with_reducible rfl)); done); (try simp only [Act.put, List.setIfInBounds_toArray, List.set_cons_zero, List.set_cons_succ])) | (refine take_held (i := 3) (d := (some 62)) (v := undef) rfl rfl (by kernel_rfl) (by kernel_rfl) (by kernel_rfl) (fun _ _ _ h => h) (Or.inr ⟨by rfl, rfl⟩) (by assumption) ?_; (try simp only [Act.put, List.setIfInBounds_toArray, List.set_cons_zero, List.set_cons_succ])))
          (try simp only [Act.put, List.setIfInBounds_toArray, List.set_cons_zero, List.set_cons_succ])
          (first | (refine take_held (i := 4) (d := (some 63)) (v := ?_) rfl rfl (by kernel_rfl) (by kernel_rfl) (by kernel_rfl) (fun _ _ _ h => h) (Or.inl ⟨by rfl, ?_⟩) (by assumption) ?_; rotate_left 1; focus ((intro w hSw; (try dsimp only at hSw); first | (go_simp; done) | (go_simp; with_reducible rfl)); done); (try simp only [Act.put, List.setIfInBounds_toArray, List.set_cons_zero, List.set_cons_succ])) | (refine take_held (i := 4) (d := (some 63)) (v := undef) rfl rfl (by kernel_rfl) (by kernel_rfl) (by kernel_rfl) (fun _ _ _ h => h) (Or.inr ⟨by rfl, rfl⟩) (by assumption) ?_; (try simp only [Act.put, List.setIfInBounds_toArray, List.set_cons_zero, List.set_cons_succ])))
          (try simp only [Act.put, List.setIfInBounds_toArray, List.set_cons_zero, List.set_cons_succ])
          (first | (refine take_held (i := 5) (d := (some 64)) (v := ?_) rfl rfl (by kernel_rfl) (by kernel_rfl) (by kernel_rfl) (fun _ _ _ h => h) (Or.inl ⟨by rfl, ?_⟩) (by assumption) ?_; rotate_left 1; focus ((intro w hSw; (try dsimp only at hSw); first | (go_simp; done) | (go_simp; with_reducible rfl)); done); (try simp only [Act.put, List.setIfInBounds_toArray, List.set_cons_zero, List.set_cons_succ])) | (refine take_held (i := 5) (d := (some 64)) (v := undef) rfl rfl (by kernel_rfl) (by kernel_rfl) (by kernel_rfl) (fun _ _ _ h => h) (Or.inr ⟨by rfl, rfl⟩) (by assumption) ?_; (try simp only [Act.put, List.setIfInBounds_toArray, List.set_cons_zero, List.set_cons_succ])))
          (try simp only [Act.put, List.setIfInBounds_toArray, List.set_cons_zero, List.set_cons_succ])
          (first | (refine take_held (i := 6) (d := (some 65)) (v := ?_) rfl rfl (by kernel_rfl) (by kernel_rfl) (by kernel_rfl) (fun _ _ _ h => h) (Or.inl ⟨by rfl, ?_⟩) (by assumption) ?_; rotate_left 1; focus ((intro w hSw; (try dsimp only at hSw); first | (go_simp; done) | (go_simp; with_reducible rfl)); done); (try simp only [Act.put, List.setIfInBounds_toArray, List.set_cons_zero, List.set_cons_succ])))
          (try simp only [Act.put, List.setIfInBounds_toArray, List.set_cons_zero, List.set_cons_succ])
          (first | (refine take_held (i := 7) (d := (some 66)) (v := ?_) rfl rfl (by kernel_rfl) (by kernel_rfl) (by kernel_rfl) (fun _ _ _ h => h) (Or.inl ⟨by rfl, ?_⟩) (by assumption) ?_; rotate_left 1; focus ((intro w hSw; (try dsimp only at hSw); first | (go_simp; done) | (go_simp; with_reducible rfl)); done); (try simp only [Act.put, List.setIfInBounds_toArray, List.set_cons_zero, List.set_cons_succ])))
          (try simp only [Act.put, List.setIfInBounds_toArray, List.set_cons_zero, List.set_cons_succ])
          (first | (refine take_held (i := 8) (d := (some 67)) (v := ?_) rfl rfl (by kernel_rfl) (by kernel_rfl) (by kernel_rfl) (fun _ _ _ h => h) (Or.inl ⟨by rfl, ?_⟩) (by assumption) ?_; rotate_left 1; focus ((intro w hSw; (try dsimp only at hSw); first | (go_simp; done) | (go_simp; with_reducible rfl)); done); (try simp only [Act.put, List.setIfInBounds_toArray, List.set_cons_zero, List.set_cons_succ])) | (refine take_held (i := 8) (d := (some 67)) (v := undef) rfl rfl (by kernel_rfl) (by kernel_rfl) (by kernel_rfl) (fun _ _ _ h => h) (Or.inr ⟨by rfl, rfl⟩) (by assumption) ?_; (try simp only [Act.put, List.setIfInBounds_toArray, List.set_cons_zero, List.set_cons_succ])))
          (try simp only [Act.put, List.setIfInBounds_toArray, List.set_cons_zero, List.set_cons_succ])
          (first | (refine take_held (i := 9) (d := (some 68)) (v := ?_) rfl rfl (by kernel_rfl) (by kernel_rfl) (by kernel_rfl) (fun _ _ _ h => h) (Or.inl ⟨by rfl, ?_⟩) (by assumption) ?_; rotate_left 1; focus ((intro w hSw; (try dsimp only at hSw); first | (go_simp; done) | (go_simp; with_reducible rfl)); done); (try simp only [Act.put, List.setIfInBounds_toArray, List.set_cons_zero, List.set_cons_succ])) | (refine take_held (i := 9) (d := (some 68)) (v := undef) rfl rfl (by kernel_rfl) (by kernel_rfl) (by kernel_rfl) (fun _ _ _ h => h) (Or.inr ⟨by rfl, rfl⟩) (by assumption) ?_; (try simp only [Act.put, List.setIfInBounds_toArray, List.set_cons_zero, List.set_cons_succ])))
          (try simp only [Act.put, List.setIfInBounds_toArray, List.set_cons_zero, List.set_cons_succ])
          (first | (refine take_held (i := 10) (d := (some 69)) (v := ?_) rfl rfl (by kernel_rfl) (by kernel_rfl) (by kernel_rfl) (fun _ _ _ h => h) (Or.inl ⟨by rfl, ?_⟩) (by assumption) ?_; rotate_left 1; focus ((intro w hSw; (try dsimp only at hSw); first | (go_simp; done) | (go_simp; with_reducible rfl)); done); (try simp only [Act.put, List.setIfInBounds_toArray, List.set_cons_zero, List.set_cons_succ])) | (refine take_held (i := 10) (d := (some 69)) (v := undef) rfl rfl (by kernel_rfl) (by kernel_rfl) (by kernel_rfl) (fun _ _ _ h => h) (Or.inr ⟨by rfl, rfl⟩) (by assumption) ?_; (try simp only [Act.put, List.setIfInBounds_toArray, List.set_cons_zero, List.set_cons_succ])))
          (try simp only [Act.put, List.setIfInBounds_toArray, List.set_cons_zero, List.set_cons_succ])
          (first | (refine take_held (i := 11) (d := (some 70)) (v := ?_) rfl rfl (by kernel_rfl) (by kernel_rfl) (by kernel_rfl) (fun _ _ _ h => h) (Or.inl ⟨by rfl, ?_⟩) (by assumption) ?_; rotate_left 1; focus ((intro w hSw; (try dsimp only at hSw); first | (go_simp; done) | (go_simp; with_reducible rfl)); done); (try simp only [Act.put, List.setIfInBounds_toArray, List.set_cons_zero, List.set_cons_succ])) | (refine take_held (i := 11) (d := (some 70)) (v := undef) rfl rfl (by kernel_rfl) (by kernel_rfl) (by kernel_rfl) (fun _ _ _ h => h) (Or.inr ⟨by rfl, rfl⟩) (by assumption) ?_; (try simp only [Act.put, List.setIfInBounds_toArray, List.set_cons_zero, List.set_cons_succ])))
          (try simp only [Act.put, List.setIfInBounds_toArray, List.set_cons_zero, List.set_cons_succ])
          (first | (refine take_held (i := 12) (d := (some 71)) (v := ?_) rfl rfl (by kernel_rfl) (by kernel_rfl) (by kernel_rfl) (fun _ _ _ h => h) (Or.inl ⟨by rfl, ?_⟩) (by assumption) ?_; rotate_left 1; focus ((intro w hSw; (try dsimp only at hSw); first | (go_simp; done) | (go_simp; with_reducible rfl)); done); (try simp only [Act.put, List.setIfInBounds_toArray, List.set_cons_zero, List.set_cons_succ])) | (refine take_held (i := 12) (d := (some 71)) (v := undef) rfl rfl (by kernel_rfl) (by kernel_rfl) (by kernel_rfl) (fun _ _ _ h => h) (Or.inr ⟨by rfl, rfl⟩) (by assumption) ?_; (try simp only [Act.put, List.setIfInBounds_toArray, List.set_cons_zero, List.set_cons_succ])))
          (try simp only [Act.put, List.setIfInBounds_toArray, List.set_cons_zero, List.set_cons_succ])
          (first | (refine take_held (i := 13) (d := (some 72)) (v := ?_) rfl rfl (by kernel_rfl) (by kernel_rfl) (by kernel_rfl) (fun _ _ _ h => h) (Or.inl ⟨by rfl, ?_⟩) (by assumption) ?_; rotate_left 1; focus ((intro w hSw; (try dsimp only at hSw); first | (go_simp; done) | (go_simp; with_reducible rfl)); done); (try simp only [Act.put, List.setIfInBounds_toArray, List.set_cons_zero, List.set_cons_succ])) | (refine take_held (i := 13) (d := (some 72)) (v := undef) rfl rfl (by kernel_rfl) (by kernel_rfl) (by kernel_rfl) (fun _ _ _ h => h) (Or.inr ⟨by rfl, rfl⟩) (by assumption) ?_; (try simp only [Act.put, List.setIfInBounds_toArray, List.set_cons_zero, List.set_cons_succ])))
          (try simp only [Act.put, List.setIfInBounds_toArray, List.set_cons_zero, List.set_cons_succ])
          (first
            | (refine take_held (i := 14) (d := (some 73)) (v := undef) rfl rfl (by kernel_rfl) (by kernel_rfl) (by kernel_rfl) (fun _ _ _ h => h) (Or.inr ⟨by rfl, rfl⟩) (by assumption) ?_; (try simp only [Act.put, List.setIfInBounds_toArray, List.set_cons_zero, List.set_cons_succ]))
            | (refine wpAnyH_ready (rs := [14]) (by kernel_rfl) (by simp) ?_; refine AllReadyH.cons (o := _) rfl (fun K hK => ?_) AllReadyH.nil; go_simp; (refine (saysT tB HOB.out tB _ _ _ _ _ _ _ _ _ (HR3.out.1.below (And.left hHeld)) (HR3.out.2.below (And.left hHeld))).mono ?_; rintro e_ wA ⟨b, rfl, hbi, hbA⟩; obtain rfl := hbi.2 rfl); (try go_wp2_with fail); refine hK.out _ _ (by (try dsimp only); (refine and_of (fun hB_ => ⟨cell_up hB_ b0, cell_up hB_ b1, cell_up hB_ b2, cell_up hB_ b3, cell_up hB_ b4, cell_up hB_ a4, cell_up hB_ y0, cell_up hB_ y1, cell_up hB_ y2, cell_up hB_ y3, cell_up hB_ y4⟩) ?_; first | (with_reducible exact (Below.refl _ _).drew) | (with_reducible exact below_call' (And.left (by assumption)) (by assumption)) | (with_reducible exact And.left (by assumption)))) ?_; clear hHeld hK K; intro hHeld; (try simp only [Act.put, List.setIfInBounds_toArray, List.set_cons_zero, List.set_cons_succ])))
          (first | (refine take_held (i := 15) (d := (some 74)) (v := ?_) rfl rfl (by kernel_rfl) (by kernel_rfl) (by kernel_rfl) (fun _ _ _ h => h) (Or.inl ⟨by rfl, ?_⟩) (by assumption) ?_; rotate_left 1; focus ((intro w hSw; (try dsimp only at hSw); first | (go_simp; done) | (go_simp; with_reducible rfl)); done); (try simp only [Act.put, List.setIfInBounds_toArray, List.set_cons_zero, List.set_cons_succ])) | (refine take_held (i := 15) (d := (some 74)) (v := undef) rfl rfl (by kernel_rfl) (by kernel_rfl) (by kernel_rfl) (fun _ _ _ h => h) (Or.inr ⟨by rfl, rfl⟩) (by assumption) ?_; (try simp only [Act.put, List.setIfInBounds_toArray, List.set_cons_zero, List.set_cons_succ])))
          (try simp only [Act.put, List.setIfInBounds_toArray, List.set_cons_zero, List.set_cons_succ])
          (first | (refine take_held (i := 16) (d := (some 75)) (v := ?_) rfl rfl (by kernel_rfl) (by kernel_rfl) (by kernel_rfl) (fun _ _ _ h => h) (Or.inl ⟨by rfl, ?_⟩) (by assumption) ?_; rotate_left 1; focus ((intro w hSw; (try dsimp only at hSw); first | (go_simp; done) | (go_simp; with_reducible rfl)); done); (try simp only [Act.put, List.setIfInBounds_toArray, List.set_cons_zero, List.set_cons_succ])))
          (try simp only [Act.put, List.setIfInBounds_toArray, List.set_cons_zero, List.set_cons_succ])
          (try simp only [Act.put, List.setIfInBounds_toArray, List.set_cons_zero, List.set_cons_succ])
          refine wpAnyH_done (by kernel_rfl) ?_ _
          have hbR := And.left hHeld
          clear hHeld
          have br4 := Aside0.mk (B3r.out.trans (hbR.mono B3r.out.size))
          have hw1 : wrap64 ((k : Int) + (i : Int) + 1) = ((k + (i + 1) : Nat) : Int) := by have h := wrap_i HI.out.2.2; push_cast at h ⊢; rw [h]; omega
          have hw2 := wrap_i HI.out.2.1
          clear b0 b1 b2 b3 b4 a4 y0 y1 y2 y3 y4 hbR lb sB
          go_wp2
          go_roundg k2
          case measure => clear hw1 hw2; omega
          case rel => exact ⟨i + 1, (by first | rfl | (rw [hw1]; rfl) | (rw [hw1]) | (push_cast; rw [hw1]; rfl) | (push_cast; rfl)), (by first | rfl | (rw [wrap_up HI.out.2.1])), by have := HI.out.1; clear hw1 hw2; omega, br4.out⟩
        · have cn : decide ((i : Int) < (L : Int)) = false := decide_eq_false (by omega)
          have cn2 : decide (i < L) = false := decide_eq_false hi
          have br5 := Aside0.mk (B3.out.trans (br.mono B3.out.size))
          have hiL : i = L := by omega
          subst hiL
          have HKI := Aside0.mk hki
          have hj9 : j + 1 < 9223372036854775807 := by have := HK.out.2.2; have := HSN.out.1; have := HN.out; omega
          have hw3 : wrap64 ((j : Int) + 1 + 1) = ((j + 1 + 1 : Nat) : Int) := by have h := wrap_i hj9; push_cast at h ⊢; rw [h]
          clear hki hi br HDr kD kA a0 a1 a2 a3 a5 a6
          go_wp2
          go_roundg k1
          case measure => clear hw3; omega
          case rel => exact ⟨j + 1, k + i, rfl, (by first | rfl | (rw [hw3]; rfl) | (rw [hw3]) | (push_cast; rfl)), by have := HK.out.1; clear hw3; omega, by rw [HY.out.2.2, HL.out]; have := HK.out.2.1; clear hw3; omega, br5.out⟩
    · have c1 : decide ((j : Int) + 1 ≤ (N : Int)) = false := decide_eq_false (by omega)
      have c2 : decide (j + 1 ≤ N) = false := decide_eq_false (by omega)
      have hjN : j = N := by omega
      have hkl : k = (sitesD d).length := by
        rw [hjN, List.take_of_length_le (by rw [expsE_len, HN.out]; exact Nat.le_refl _), many_all d HSN.out.1] at hkj
        rw [sitesD_len, hkj, ← HH.out]
      have HKL := Aside0.mk hkl
      clear hk hkj hj hjN hkl
      go_wp2_with fail
      have HKD2 := Aside0.mk kD2
      clear kD2 c1 c2
      go_loopg [12] h (fun kq v12 w' => ∃ (i : Nat), v12 = .int .i64 (i : Int) ∧ kq + i = h ∧ Below w2.heap.size w2 w')
      case atStart => exact ⟨0, rfl, rfl, Below.refl _ _⟩
      case round =>
        obtain ⟨i, rfl, hki, br⟩ := hrel
        have kD := blk_below HKD2.out br
        have HDr := Aside0.mk (HD2.out.below br)
        have BR := Aside0.mk (B2.out.trans (br.mono B2.out.size))
        by_cases hi : i < h
        · obtain ⟨k2, rfl⟩ : ∃ k2, gk = k2 + 1 := ⟨gk - 1, by omega⟩
          have ci : decide ((i : Int) < (h : Int)) = true := decide_eq_true (by omega)
          have ci2 : decide (i < h) = true := decide_eq_true hi
          have hkl : i < (sitesD d).length := by rw [sitesD_len]; have h1 : headN d = d.f0.f1.length + d.f0.f2.length + 1 := rfl; have := HH.out; omega
          have hs0 := head_at d i (by rw [HH.out]; exact hi) hkl
          have HA2 := Aside0.mk (at_l d HO.out.1 HO.out.2 i hkl HDr.out)
          rw [hs0] at HA2
          obtain ⟨tB, htB⟩ : ∃ z, ((sitesD d)[i]'hkl).1 = z := ⟨_, rfl⟩
          rw [htB] at HA2
          have hi9 : i < 9223372036854775807 := by have := H9.out; omega
          have HI := Aside0.mk (And.intro hki hi9)
          have BR2 := Aside0.mk br
          clear hkl hs0 htB hki hi9 br
          go_wp2_with (first
            | (refine wpList_load_row rfl 33 (.tmp 1) rfl (w.heap.size) rfl _ _ (0, 0) _ kD Try.underlying33 rfl (by kernel_rfl) ?_)
            | fail)
          refine HA2.out.mono ?_
          rintro e_ wb ⟨Q3, q3, Q4, q4, rfl, hrb, hbb⟩
          dsimp only at hrb ⊢
          have bB := below_alloc1 wb (.cells (tarr tB Q3 q3 Q4 q4) 26)
          have B4 := Aside0.mk (BR2.out.trans ((hbb.trans (bB.mono hbb.size)).mono BR2.out.size))
          have hw2 := wrap_i HI.out.2
          clear hrb hbb bB HA2 kD BR2
          go_wp2
          go_roundg k2
          case measure => clear hw2; omega
          case rel => exact ⟨i + 1, (by first | rfl | (rw [wrap_up HI.out.2])), by have := HI.out.1; clear hw2; omega, B4.out⟩
        · have cn : decide ((i : Int) < (h : Int)) = false := decide_eq_false (by omega)
          have cn2 : decide (i < h) = false := decide_eq_false hi
          have HC := Aside0.mk (count_l d HO.out.1 HO.out.2 HDr.out)
          rw [← HKL.out] at HC
          clear hki hi br
          go_wp2_with (first
            | (refine wpList_load_row rfl 33 (.tmp 1) rfl (w.heap.size) rfl _ _ (0, 0) _ kD Try.underlying33 rfl (by kernel_rfl) ?_)
            | fail)
          refine HC.out.mono ?_
          rintro e_ w5 ⟨rfl, hb5⟩
          have B5 := Aside0.mk (BR.out.trans (hb5.mono BR.out.size))
          clear hb5 HC BR kD
          go_wp2_with fail
          refine (HA.out _).mono ?_
          rintro e_ w6 ⟨rfl, hb6⟩
          have bfin := B1.out.trans ((B5.out.trans (hb6.mono B5.out.size)).mono B1.out.size)
          clear hb6 B5
          go_wp2
          go_ret
          exact ⟨rfl, bfin⟩
end Go.Proofs.Ytlenfmnkbepoiaa.PSitesTell

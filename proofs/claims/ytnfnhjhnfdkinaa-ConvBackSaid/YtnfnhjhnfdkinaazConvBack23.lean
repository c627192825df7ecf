/-
  ConvBack: texts of this claim, put together by a program of this session. No conditions beyond what each lemma says.
-/
import Derived.Test.YtnfnhjhnfdkinaazConvBack22
import Derived.Test.YtnfnhjhnfdkinaazConvBack20
namespace Go.Proofs.Ytnfnhjhnfdkinaa.PConvBack
open Go.RowKit Go.Proofs.YtnfnhjhnfdkinaaW.Mine Go.Proofs.YtnfnhjhnfdkinaaW.PrintWords Go.Proofs.YtnfnhjhnfdkinaaW.PrintLast Go.Proofs.YtnfnhjhnfdkinaaW.PrintMore
attribute [local go_sem] max2_int min2_int max_two min_two max_three min_three max_four min_four
set_option linter.unusedVariables false
set_option linter.unusedSimpArgs false
theorem twob (w : World) (c d : Array Value) (t1 t2 : TypeId) : let W := (w.alloc (.cells c t1)).alloc (.cells d t2)
    (W.heap[w.heap.size]? = some (.cells c t1 (0, 0)) ∧ W.heap[w.heap.size + 1]? = some (.cells d t2 (0, 0))) ∧ Below w.heap.size w W := by
  have k1 := blk_new (w.alloc (.cells c t1)) (.cells d t2)
  simp only [World.size_alloc] at k1
  exact ⟨⟨blk_alloc (blk_new w _) _, k1⟩, chain (below_alloc1 _ _) (below_alloc1 _ _)⟩
set_option maxRecDepth 100000 in
theorem rfun_c (v : Vl) {A6 A7 A8 : Option Addr} {c6 c7 c8 : Nat} {w : World} : Calls Try.prog 79 #[vv v A6 c6 A7 c7 A8 c8] w (BOut w (funB v)) := by
  have kV := blk_new w (.cells (vcells v A6 c6 A7 c7 A8 c8) 55)
  have b0 := below_alloc1 w (.cells (vcells v A6 c6 A7 c7 A8 c8) 55)
  obtain ⟨⟨v0, v1, v2, v3, v4, v5, v6, v7, v8, v9⟩, _, lv⟩ := ten kV
  have hq : funB v = (decide (v.f0 = 5) || (decide (v.f0 = 6) || decide (v.f0 = 7))) := rfl
  generalize funB v = o at hq ⊢
  have HQ := Aside0.mk hq
  have B0 := Aside0.mk b0
  clear hq b0 kV
  by_cases h5 : v.f0 = 5
  · have HN : Aside0 (o = true) := ⟨by rw [HQ.out]; simp [h5]⟩
    have a1 : decide (v.f0 = 5) = true := decide_eq_true (by first | exact h5 | omega)
    have a2 : (v.f0 == 5) = true := by (first | simpa using h5 | (simp; omega))
    have a3 : (v.f0 != 5) = false := by (first | simpa using h5 | (simp; omega))
    clear h5
    go_enter Try.func79, Try.ntmps79
    go_wp2
    go_ret
    exact ⟨by rw [HN.out]; rfl, B0.out⟩
  by_cases h6 : v.f0 = 6
  · have HN : Aside0 (o = true) := ⟨by rw [HQ.out]; simp [h6]⟩
    have a1 : decide (v.f0 = 5) = false := decide_eq_false (by first | exact h5 | omega)
    have a2 : (v.f0 == 5) = false := by (first | simpa using h5 | (simp; omega))
    have a3 : (v.f0 != 5) = true := by (first | simpa using h5 | (simp; omega))
    have b1 : decide (v.f0 = 6) = true := decide_eq_true (by first | exact h6 | omega)
    have b2 : (v.f0 == 6) = true := by (first | simpa using h6 | (simp; omega))
    have b3 : (v.f0 != 6) = false := by (first | simpa using h6 | (simp; omega))
    clear h6
    go_enter Try.func79, Try.ntmps79
    go_wp2
    go_ret
    exact ⟨by rw [HN.out]; rfl, B0.out⟩
  by_cases h7 : v.f0 = 7
  · have HN : Aside0 (o = true) := ⟨by rw [HQ.out]; simp [h7]⟩
    have a1 : decide (v.f0 = 5) = false := decide_eq_false (by first | exact h5 | omega)
    have a2 : (v.f0 == 5) = false := by (first | simpa using h5 | (simp; omega))
    have a3 : (v.f0 != 5) = true := by (first | simpa using h5 | (simp; omega))
    have b1 : decide (v.f0 = 6) = false := decide_eq_false (by first | exact h6 | omega)
    have b2 : (v.f0 == 6) = false := by (first | simpa using h6 | (simp; omega))
    have b3 : (v.f0 != 6) = true := by (first | simpa using h6 | (simp; omega))
    have d1 : decide (v.f0 = 7) = true := decide_eq_true (by first | exact h7 | omega)
    have d2 : (v.f0 == 7) = true := by (first | simpa using h7 | (simp; omega))
    have d3 : (v.f0 != 7) = false := by (first | simpa using h7 | (simp; omega))
    clear h7
    go_enter Try.func79, Try.ntmps79
    go_wp2
    go_ret
    exact ⟨by rw [HN.out]; rfl, B0.out⟩
  have HN : Aside0 (o = false) := ⟨by rw [HQ.out]; simp [h5, h6, h7]⟩
  have a1 : decide (v.f0 = 5) = false := decide_eq_false (by first | exact h5 | omega)
  have a2 : (v.f0 == 5) = false := by (first | simpa using h5 | (simp; omega))
  have a3 : (v.f0 != 5) = true := by (first | simpa using h5 | (simp; omega))
  have b1 : decide (v.f0 = 6) = false := decide_eq_false (by first | exact h6 | omega)
  have b2 : (v.f0 == 6) = false := by (first | simpa using h6 | (simp; omega))
  have b3 : (v.f0 != 6) = true := by (first | simpa using h6 | (simp; omega))
  have d1 : decide (v.f0 = 7) = false := decide_eq_false (by first | exact h7 | omega)
  have d2 : (v.f0 == 7) = false := by (first | simpa using h7 | (simp; omega))
  have d3 : (v.f0 != 7) = true := by (first | simpa using h7 | (simp; omega))
  go_enter Try.func79, Try.ntmps79
  go_wp2
  go_ret
  exact ⟨by rw [HN.out]; rfl, B0.out⟩
set_option maxRecDepth 100000 in
theorem dyn_c {w : World} : Calls Try.prog 52 #[] w fun e w' => e = .returned (tv dynT none 0 none 0) ∧ Below w.heap.size w w' := by
  have kN := blk_new w (.cells (tarr dynT none 0 none 0) 25)
  have b0 := below_alloc1 w (.cells (tarr dynT none 0 none 0) 25)
  have KN := Aside0.mk kN
  have BN := Aside0.mk b0
  clear kN b0
  go_enter Try.func52, Try.ntmps52
  go_wp2
  (try simp only [Exit.inBlock, Exit.then]); refine bodyPost_ret (results_cell_row rfl _ _ _ 25 _ (0, 0) _ rfl KN.out Try.underlying25 rfl (by kernel_rfl)) rfl ?_
  exact ⟨rfl, BN.out⟩
theorem isB_succ (l : List Se) (n : Nat) (v : Vl) (t : Ty) : isB l (n + 1) v t = (if t.f0 = 1 then decide (v.f0 = 1) else if t.f0 = 2 then decide (v.f0 = 2) else if t.f0 = 3 then decide (v.f0 = 3) else if t.f0 = 7 then funB v else if t.f0 = 9 then (if v.f0 = 8 then (if v.f1 = t.f1 then sealB l (isB l n) v else false) else false) else if t.f0 = 8 then (if v.f0 = 4 ∧ v.f7 = t.f3 ∧ v.f8.length = t.f4.length then allTwo (isB l n) v.f8 t.f4 else false) else if t.f0 = 4 ∨ t.f0 = 5 then (if v.f0 = 8 then sealB l (isB l n) v else if v.f0 = 4 then v.f8.all (fun k => isB l n k dynT) else (decide (v.f0 = 1) || (decide (v.f0 = 2) || (decide (v.f0 = 3) || funB v)))) else false) := rfl
section
variable {l : List Se} {n : Nat} {v : Vl} {t : Ty}
theorem isB_1 (h : t.f0 = 1) : isB l (n + 1) v t = decide (v.f0 = 1) := by rw [isB_succ, if_pos h]
theorem isB_2 (h : t.f0 = 2) : isB l (n + 1) v t = decide (v.f0 = 2) := by rw [isB_succ, if_neg (by omega), if_pos h]
theorem isB_3 (h : t.f0 = 3) : isB l (n + 1) v t = decide (v.f0 = 3) := by rw [isB_succ, if_neg (by omega), if_neg (by omega), if_pos h]
theorem isB_7 (h : t.f0 = 7) : isB l (n + 1) v t = funB v := by rw [isB_succ, if_neg (by omega), if_neg (by omega), if_neg (by omega), if_pos h]
theorem isB_9 (h : t.f0 = 9) : isB l (n + 1) v t = if v.f0 = 8 then (if v.f1 = t.f1 then sealB l (isB l n) v else false) else false := by rw [isB_succ, if_neg (by omega), if_neg (by omega), if_neg (by omega), if_neg (by omega), if_pos h]
theorem isB_8 (h : t.f0 = 8) : isB l (n + 1) v t = if v.f0 = 4 ∧ v.f7 = t.f3 ∧ v.f8.length = t.f4.length then allTwo (isB l n) v.f8 t.f4 else false := by rw [isB_succ, if_neg (by omega), if_neg (by omega), if_neg (by omega), if_neg (by omega), if_neg (by omega), if_pos h]
theorem isB_t (h : t.f0 = 4 ∨ t.f0 = 5) : isB l (n + 1) v t = if v.f0 = 8 then sealB l (isB l n) v else if v.f0 = 4 then v.f8.all (fun k => isB l n k dynT) else (decide (v.f0 = 1) || (decide (v.f0 = 2) || (decide (v.f0 = 3) || funB v))) := by rw [isB_succ, if_neg (by omega), if_neg (by omega), if_neg (by omega), if_neg (by omega), if_neg (by omega), if_neg (by omega), if_pos h]
theorem isB_no (h1 : ¬ t.f0 = 1) (h2 : ¬ t.f0 = 2) (h3 : ¬ t.f0 = 3) (h7 : ¬ t.f0 = 7) (h9 : ¬ t.f0 = 9) (h8 : ¬ t.f0 = 8) (h4 : ¬ t.f0 = 4) (h5 : ¬ t.f0 = 5) : isB l (n + 1) v t = false := by rw [isB_succ, if_neg h1, if_neg h2, if_neg h3, if_neg h7, if_neg h9, if_neg h8, if_neg (by omega)]
end
theorem allTwo_all {f : Vl → Ty → Bool} : ∀ {l : List Vl} {m : List Ty}, l.length = m.length → (∀ j (h : j < l.length) (h' : j < m.length), f l[j] m[j] = true) → allTwo f l m = true
  | [], [], _, _ => rfl
  | a :: l, b :: m, he, h => by
    have h0 := h 0 (by simp) (by simp)
    have h1 := allTwo_all (l := l) (m := m) (by simpa using he) (fun j hj hj' => by have := h (j + 1) (by simpa using hj) (by simpa using hj'); simpa using this)
    simp only [List.getElem_cons_zero] at h0
    simp [allTwo, h0, h1]
  | [], _ :: _, he, _ => by simp at he
  | _ :: _, [], he, _ => by simp at he
theorem allTwo_not {f : Vl → Ty → Bool} : ∀ {l : List Vl} {m : List Ty} (j : Nat) (h : j < l.length) (h' : j < m.length), f l[j] m[j] = false → allTwo f l m = false
  | a :: l, b :: m, 0, _, _, h => by simp only [List.getElem_cons_zero] at h; simp [allTwo, h]
  | a :: l, b :: m, j + 1, h1, h2, h => by
    have := allTwo_not (l := l) (m := m) j (by simpa using h1) (by simpa using h2) (by simpa using h)
    simp [allTwo, this]
theorem all_all {f : Vl → Bool} {l : List Vl} (h : ∀ j (h : j < l.length), f l[j] = true) : l.all f = true := by
  rw [List.all_eq_true]
  intro x hx
  obtain ⟨j, hj, rfl⟩ := List.mem_iff_getElem.1 hx
  exact h j hj
theorem all_not {f : Vl → Bool} {l : List Vl} {j : Nat} (hj : j < l.length) (h : f l[j] = false) : l.all f = false := by
  rw [List.all_eq_false]
  exact ⟨l[j], List.getElem_mem hj, by rw [h]; decide⟩
theorem size_kids (x : Vl) (y : Vl) (hy : y ∈ x.f8) : SizeOf.sizeOf y < SizeOf.sizeOf x := by
  have := List.sizeOf_lt_of_mem hy
  cases x
  simp at this ⊢
  omega
theorem okt_dyn : Okt dynT := .mk _ (by simp) (by simp) (fun y hy => by simp at hy)
end Go.Proofs.Ytnfnhjhnfdkinaa.PConvBack
namespace Go.Proofs.Ytnfnhjhnfdkinaa.PConvBack
open Go.RowKit Go.Proofs.YtnfnhjhnfdkinaaW.Mine Go.Proofs.YtnfnhjhnfdkinaaW.PrintWords Go.Proofs.YtnfnhjhnfdkinaaW.PrintLast Go.Proofs.YtnfnhjhnfdkinaaW.PrintMore
attribute [local go_sem] max2_int min2_int max_two min_two max_three min_three max_four min_four
set_option linter.unusedVariables false
set_option linter.unusedSimpArgs false
/-- A number comes. -/
def NOut (w : World) (e : Ending) (w' : World) : Prop := ∃ r : Int, e = .returned (.int .i64 r) ∧ Below w.heap.size w w'
def MuchT (x : Ty) : Prop := ∀ (A3 : Option Addr) (c3 : Nat) (A4 : Option Addr) (c4 : Nat) (w : World), RT w x A3 c3 A4 c4 → Calls Try.prog 14 #[tv x A3 c3 A4 c4] w (NOut w)
def MuchC (x : Vl) : Prop := ∀ (A6 : Option Addr) (c6 : Nat) (A7 : Option Addr) (c7 : Nat) (A8 : Option Addr) (c8 : Nat) (w : World), RV w x A6 c6 A7 c7 A8 c8 → Calls Try.prog 38 #[vv x A6 c6 A7 c7 A8 c8] w (NOut w)
set_option maxHeartbeats 8000000 in
set_option maxRecDepth 100000 in
theorem mucht_one (x : Ty) (o : Okt x) (hs : ∀ y, y ∈ x.f4 → MuchT y) : MuchT x := by
  intro A3 c3 A4 c4 w hA
  have l3 := o.l3
  have l4 := o.l80
  have HS := Aside0.mk hs
  have kP := blk_new w (.cells (tarr x A3 c3 A4 c4) 25)
  have b0 := below_alloc1 w (.cells (tarr x A3 c3 A4 c4) 25)
  replace hA := hA.below b0
  obtain ⟨⟨p0, p1, p2, p3, p4⟩, -, lp⟩ := five kP
  clear o hs
  go_enter Try.func14, Try.ntmps14
  go_wp2_with fail
  go_loopg [3, 4] x.f3.length (fun kq vn vi w' => ∃ (i : Nat) (n : Int), vn = .int .i64 n ∧ vi = .int .i64 i ∧ kq + i = x.f3.length ∧ Below (w.alloc (.cells (tarr x A3 c3 A4 c4) 25)).heap.size (w.alloc (.cells (tarr x A3 c3 A4 c4) 25)) w')
  case atStart => exact ⟨0, _, rfl, rfl, rfl, Below.refl _ _⟩
  case round =>
    obtain ⟨i, n, rfl, rfl, hk, br⟩ := hrel
    have BR := Aside0.mk br
    replace kP := blk_up br kP
    replace hA := hA.below br
    have b0x := chain b0 br
    clear p0 p1 p2 p3 p4 lp b0 br
    obtain ⟨⟨p0, p1, p2, p3, p4⟩, -, lp⟩ := five kP
    by_cases hi : i < x.f3.length ∧ (i : Int) < 1000
    · obtain ⟨hi, hn⟩ := hi
      obtain ⟨k1, rfl⟩ : ∃ k1, gk = k1 + 1 := ⟨gk - 1, by omega⟩
      have ci : decide ((i : Int) < (x.f3.length : Int)) = true := decide_eq_true (by omega)
      have ci2 : decide (i < x.f3.length) = true := decide_eq_true hi
      have cn : decide ((i : Int) < 1000) = true := decide_eq_true hn
      have cn2 : decide (i < 1000) = true := decide_eq_true (by omega)
      have i0 : (0 : Int) ≤ (i : Int) := by omega
      have i1 : (i : Int) < (x.f3.length : Int) := by omega
      obtain ⟨ad, hE, y0⟩ := selt hA.2.1 i hi
      subst hE
      have HK := Aside0.mk hk
      have BE := BR.out
      clear hk
      have hw2 : wrap64 ((i : Int) + 1) = (i : Int) + 1 := wrap_ok (by omega) (by omega)
      go_wp2
      go_roundg k1
      case measure => omega
      case rel => exact ⟨i + 1, _, rfl, (by first | rfl | (simp; done) | (push_cast; rfl)), by have := HK.out; omega, BE⟩
    · have hx : (decide ((i : Int) < (x.f3.length : Int)) = false ∧ decide (i < x.f3.length) = false) ∨ (decide ((i : Int) < (x.f3.length : Int)) = true ∧ decide (i < x.f3.length) = true ∧ decide ((i : Int) < 1000) = false ∧ decide (i < 1000) = false) := by
        by_cases h1 : i < x.f3.length
        · have h2 : ¬ (i : Int) < 1000 := fun h => hi ⟨h1, h⟩
          exact .inr ⟨decide_eq_true (by omega), decide_eq_true h1, decide_eq_false h2, decide_eq_false (by omega)⟩
        · exact .inl ⟨decide_eq_false (by omega), decide_eq_false h1⟩
      clear hi hk BR
      rcases hx with ⟨x1, x2⟩ | ⟨x1, x2, x3, x4⟩
      all_goals (
        go_wp2_with fail
        generalize wr = w2 at *
        go_loopg [3, 5] x.f4.length (fun kq vn vi w' => ∃ (i : Nat) (n : Int), vn = .int .i64 n ∧ vi = .int .i64 i ∧ kq + i = x.f4.length ∧ Below w2.heap.size w2 w')
        case atStart => exact ⟨0, _, rfl, rfl, rfl, Below.refl _ _⟩
        case round =>
          obtain ⟨i, n, rfl, rfl, hk, br⟩ := hrel
          have BR := Aside0.mk br
          replace kP := blk_up br kP
          replace hA := hA.below br
          have b0xx := chain b0x br
          clear p0 p1 p2 p3 p4 lp b0x br
          obtain ⟨⟨p0, p1, p2, p3, p4⟩, -, lp⟩ := five kP
          by_cases hi : i < x.f4.length ∧ n < 3000
          · obtain ⟨hi, hn⟩ := hi
            obtain ⟨k1, rfl⟩ : ∃ k1, gk = k1 + 1 := ⟨gk - 1, by omega⟩
            have ci : decide ((i : Int) < (x.f4.length : Int)) = true := decide_eq_true (by omega)
            have ci2 : decide (i < x.f4.length) = true := decide_eq_true hi
            have cn : decide (n < 3000) = true := decide_eq_true hn
            have i0 : (0 : Int) ≤ (i : Int) := by omega
            have i1 : (i : Int) < (x.f4.length : Int) := by omega
            have hm := List.getElem_mem hi
            obtain ⟨ad, X3, e3, X4, e4, hE, fx, y0, y1, y2, y3, y4⟩ := telt hA.2.2.2 i hi
            subst hE
            have HC := Aside0.mk (HS.out _ hm _ _ _ _ _ fx)
            have HK := Aside0.mk hk
            clear hk hm fx
            generalize x.f4[i] = z at *
            go_wp2_with fail
            refine HC.out.mono ?_
            rintro e_ w3 ⟨r, rfl, hb⟩
            have BE := chain BR.out hb
            replace kP := blk_up hb kP
            clear p0 p1 p2 p3 p4 lp y0 y1 y2 y3 y4 b0xx
            obtain ⟨⟨p0, p1, p2, p3, p4⟩, -, lp⟩ := five kP
            have hw2 : wrap64 ((i : Int) + 1) = (i : Int) + 1 := wrap_ok (by omega) (by omega)
            go_wp2
            go_roundg k1
            case measure => omega
            case rel => exact ⟨i + 1, _, rfl, (by first | rfl | (simp; done) | (push_cast; rfl)), by have := HK.out; omega, BE⟩
          · have hx : (decide ((i : Int) < (x.f4.length : Int)) = false ∧ decide (i < x.f4.length) = false) ∨ (decide ((i : Int) < (x.f4.length : Int)) = true ∧ decide (i < x.f4.length) = true ∧ decide (n < 3000) = false) := by
              by_cases h1 : i < x.f4.length
              · have h2 : ¬ n < 3000 := fun h => hi ⟨h1, h⟩
                exact .inr ⟨decide_eq_true (by omega), decide_eq_true h1, decide_eq_false h2⟩
              · exact .inl ⟨decide_eq_false (by omega), decide_eq_false h1⟩
            clear hi hk BR
            rcases hx with ⟨x1, x2⟩ | ⟨x1, x2, x3⟩
            all_goals (
              go_wp2
              go_ret
              exact ⟨_, rfl, b0xx⟩))
theorem mucht : ∀ (n : Nat) (x : Ty), SizeOf.sizeOf x < n → Okt x → MuchT x
  | 0, x, h, _ => absurd h (Nat.not_lt_zero _)
  | n + 1, x, h, ho => mucht_one x ho fun y hy => mucht n y (by have := size_args x y hy; omega) (ho.all y hy)
set_option maxHeartbeats 8000000 in
set_option maxRecDepth 100000 in
theorem muchv_one (x : Vl) (o : Okv x) (hs : ∀ y, y ∈ x.f8 → MuchC y) : MuchC x := by
  intro A6 c6 A7 c7 A8 c8 w hA
  obtain ⟨l6, ot, l7, l8, -⟩ := o.parts
  have HS := Aside0.mk hs
  have OT := Aside0.mk ot
  have kP := blk_new w (.cells (vcells x A6 c6 A7 c7 A8 c8) 55)
  have b0 := below_alloc1 w (.cells (vcells x A6 c6 A7 c7 A8 c8) 55)
  replace hA := hA.below b0
  obtain ⟨⟨p0, p1, p2, p3, p4, p5, p6, p7, p8, p9⟩, -, lp⟩ := ten kP
  clear o hs ot
  go_enter Try.func38, Try.ntmps38
  go_wp2_with fail
  go_loopg [3, 4] x.f6.length (fun kq vn vi w' => ∃ (i : Nat) (n : Int), vn = .int .i64 n ∧ vi = .int .i64 i ∧ kq + i = x.f6.length ∧ Below (w.alloc (.cells (vcells x A6 c6 A7 c7 A8 c8) 55)).heap.size (w.alloc (.cells (vcells x A6 c6 A7 c7 A8 c8) 55)) w')
  case atStart => exact ⟨0, _, rfl, rfl, rfl, Below.refl _ _⟩
  case round =>
    obtain ⟨i, n, rfl, rfl, hk, br⟩ := hrel
    have BR := Aside0.mk br
    replace kP := blk_up br kP
    replace hA := hA.below br
    have b0x := chain b0 br
    clear p0 p1 p2 p3 p4 p5 p6 p7 p8 p9 lp b0 br
    obtain ⟨⟨p0, p1, p2, p3, p4, p5, p6, p7, p8, p9⟩, -, lp⟩ := ten kP
    by_cases hi : i < x.f6.length ∧ n < 3000
    · obtain ⟨hi, hn⟩ := hi
      obtain ⟨k1, rfl⟩ : ∃ k1, gk = k1 + 1 := ⟨gk - 1, by omega⟩
      have ci : decide ((i : Int) < (x.f6.length : Int)) = true := decide_eq_true (by omega)
      have ci2 : decide (i < x.f6.length) = true := decide_eq_true hi
      have cn : decide (n < 3000) = true := decide_eq_true hn
      have i0 : (0 : Int) ≤ (i : Int) := by omega
      have i1 : (i : Int) < (x.f6.length : Int) := by omega
      have hm := List.getElem_mem hi
      obtain ⟨ad, X3, e3, X4, e4, hE, fx, y0, y1, y2, y3, y4⟩ := telt hA.2.1 i hi
      subst hE
      have HC := Aside0.mk (mucht _ _ (Nat.lt_succ_self _) (OT.out _ hm) _ _ _ _ _ fx)
      have HK := Aside0.mk hk
      clear hk hm fx
      generalize x.f6[i] = z at *
      go_wp2_with fail
      refine HC.out.mono ?_
      rintro e_ w3 ⟨r, rfl, hb⟩
      have BE := chain BR.out hb
      replace kP := blk_up hb kP
      clear p0 p1 p2 p3 p4 p5 p6 p7 p8 p9 lp y0 y1 y2 y3 y4 b0x
      obtain ⟨⟨p0, p1, p2, p3, p4, p5, p6, p7, p8, p9⟩, -, lp⟩ := ten kP
      have hw2 : wrap64 ((i : Int) + 1) = (i : Int) + 1 := wrap_ok (by omega) (by omega)
      go_wp2
      go_roundg k1
      case measure => omega
      case rel => exact ⟨i + 1, _, rfl, (by first | rfl | (simp; done) | (push_cast; rfl)), by have := HK.out; omega, BE⟩
    · have hx : (decide ((i : Int) < (x.f6.length : Int)) = false ∧ decide (i < x.f6.length) = false) ∨ (decide ((i : Int) < (x.f6.length : Int)) = true ∧ decide (i < x.f6.length) = true ∧ decide (n < 3000) = false) := by
        by_cases h1 : i < x.f6.length
        · have h2 : ¬ n < 3000 := fun h => hi ⟨h1, h⟩
          exact .inr ⟨decide_eq_true (by omega), decide_eq_true h1, decide_eq_false h2⟩
        · exact .inl ⟨decide_eq_false (by omega), decide_eq_false h1⟩
      clear hi hk BR
      rcases hx with ⟨x1, x2⟩ | ⟨x1, x2, x3⟩
      all_goals (
        go_wp2_with fail
        generalize wr = w2 at *
        go_loopg [3, 5] x.f8.length (fun kq vn vi w' => ∃ (i : Nat) (n : Int), vn = .int .i64 n ∧ vi = .int .i64 i ∧ kq + i = x.f8.length ∧ Below w2.heap.size w2 w')
        case atStart => exact ⟨0, _, rfl, rfl, rfl, Below.refl _ _⟩
        case round =>
          obtain ⟨i, n, rfl, rfl, hk, br⟩ := hrel
          have BR := Aside0.mk br
          replace kP := blk_up br kP
          replace hA := hA.below br
          have b0xx := chain b0x br
          clear p0 p1 p2 p3 p4 p5 p6 p7 p8 p9 lp b0x br
          obtain ⟨⟨p0, p1, p2, p3, p4, p5, p6, p7, p8, p9⟩, -, lp⟩ := ten kP
          by_cases hi : i < x.f8.length ∧ n < 3000
          · obtain ⟨hi, hn⟩ := hi
            obtain ⟨k1, rfl⟩ : ∃ k1, gk = k1 + 1 := ⟨gk - 1, by omega⟩
            have ci : decide ((i : Int) < (x.f8.length : Int)) = true := decide_eq_true (by omega)
            have ci2 : decide (i < x.f8.length) = true := decide_eq_true hi
            have cn : decide (n < 3000) = true := decide_eq_true hn
            have i0 : (0 : Int) ≤ (i : Int) := by omega
            have i1 : (i : Int) < (x.f8.length : Int) := by omega
            have hm := List.getElem_mem hi
            obtain ⟨ad, X6, e6, X7, e7, X8, e8, hE, fx, y0, y1, y2, y3, y4, y5, y6, y7, y8, y9⟩ := velt (Kd.C_F heapVl hA.2.2.2.2.2) i hi
            subst hE
            have HC := Aside0.mk (HS.out _ hm _ _ _ _ _ _ _ fx.rv)
            have HK := Aside0.mk hk
            clear hk hm fx
            generalize x.f8[i] = z at *
            go_wp2_with fail
            refine HC.out.mono ?_
            rintro e_ w3 ⟨r, rfl, hb⟩
            have BE := chain BR.out hb
            replace kP := blk_up hb kP
            clear p0 p1 p2 p3 p4 p5 p6 p7 p8 p9 lp y0 y1 y2 y3 y4 y5 y6 y7 y8 y9 b0xx
            obtain ⟨⟨p0, p1, p2, p3, p4, p5, p6, p7, p8, p9⟩, -, lp⟩ := ten kP
            have hw2 : wrap64 ((i : Int) + 1) = (i : Int) + 1 := wrap_ok (by omega) (by omega)
            go_wp2
            go_roundg k1
            case measure => omega
            case rel => exact ⟨i + 1, _, rfl, (by first | rfl | (simp; done) | (push_cast; rfl)), by have := HK.out; omega, BE⟩
          · have hx : (decide ((i : Int) < (x.f8.length : Int)) = false ∧ decide (i < x.f8.length) = false) ∨ (decide ((i : Int) < (x.f8.length : Int)) = true ∧ decide (i < x.f8.length) = true ∧ decide (n < 3000) = false) := by
              by_cases h1 : i < x.f8.length
              · have h2 : ¬ n < 3000 := fun h => hi ⟨h1, h⟩
                exact .inr ⟨decide_eq_true (by omega), decide_eq_true h1, decide_eq_false h2⟩
              · exact .inl ⟨decide_eq_false (by omega), decide_eq_false h1⟩
            clear hi hk BR
            rcases hx with ⟨x1, x2⟩ | ⟨x1, x2, x3⟩
            all_goals (
              go_wp2
              go_ret
              exact ⟨_, rfl, b0xx⟩))
theorem muchv : ∀ (n : Nat) (x : Vl), SizeOf.sizeOf x < n → Okv x → MuchC x
  | 0, x, h, _ => absurd h (Nat.not_lt_zero _)
  | n + 1, x, h, ho => muchv_one x ho fun y hy => muchv n y (by have := size_kids x y hy; omega) (ho.parts.2.2.2.2 y hy)
end Go.Proofs.Ytnfnhjhnfdkinaa.PConvBack
namespace Go.Proofs.Ytnfnhjhnfdkinaa.PConvBack
open Go.RowKit Go.Proofs.YtnfnhjhnfdkinaaW.Mine Go.Proofs.YtnfnhjhnfdkinaaW.PrintWords Go.Proofs.YtnfnhjhnfdkinaaW.PrintLast Go.Proofs.YtnfnhjhnfdkinaaW.PrintMore
attribute [local go_sem] max2_int min2_int max_two min_two max_three min_three max_four min_four
set_option linter.unusedVariables false
set_option linter.unusedSimpArgs false
set_option maxHeartbeats 16000000 in
set_option maxRecDepth 100000 in
theorem is_1 (l : List Se) (n : Nat) (v : Vl) (t : Ty) (ol : Okl l) (ov : Okv v) (ot : Okt t) (hs : ∀ y, y ∈ v.f8 → IsC l (isB l n) y) {AL A6 A7 A8 A3 A4 : Option Addr} {cL c6 c7 c8 c3 c4 : Nat} {w : World} (hL : kSe.C w AL l.length l) (hv : RV w v A6 c6 A7 c7 A8 c8) (ht : RT w t A3 c3 A4 c4) (hk : t.f0 = 1) :
    Calls Try.prog 43 #[.slice AL l.length cL, vv v A6 c6 A7 c7 A8 c8, tv t A3 c3 A4 c4] w (BOut w (isB l (n + 1) v t)) := by
  obtain ⟨⟨kV, kT⟩, b0⟩ := twob w (vcells v A6 c6 A7 c7 A8 c8) (tarr t A3 c3 A4 c4) 55 25
  obtain ⟨⟨v0, v1, v2, v3, v4, v5, v6, v7, v8, v9⟩, _, lv⟩ := ten kV
  obtain ⟨⟨t0, t1, t2, t3, t4⟩, _, lt⟩ := five kT
  have hq := isB_1 (l := l) (n := n) (v := v) hk
  generalize isB l (n + 1) v t = o at hq ⊢
  have HQ := Aside0.mk hq
  have OL := Aside0.mk ol
  have OV := Aside0.mk ov
  have OT := Aside0.mk ot
  have HS := Aside0.mk hs
  have HL := Aside0.mk hL
  have HV := Aside0.mk hv
  have HT := Aside0.mk ht
  have B0 := Aside0.mk b0
  clear hq ol ov ot hs hL hv ht kV kT
  have e11 : decide (t.f0 = 1) = true := decide_eq_true (by first | exact hk | omega)
  have e12 : (t.f0 == 1) = true := by first | simpa using hk | (simp; omega)
  have e13 : (t.f0 != 1) = false := by first | simpa using hk | (simp; omega)
  have e21 : decide (t.f0 = 2) = false := decide_eq_false (by first | exact hk | omega)
  have e22 : (t.f0 == 2) = false := by first | simpa using hk | (simp; omega)
  have e23 : (t.f0 != 2) = true := by first | simpa using hk | (simp; omega)
  have e31 : decide (t.f0 = 3) = false := decide_eq_false (by first | exact hk | omega)
  have e32 : (t.f0 == 3) = false := by first | simpa using hk | (simp; omega)
  have e33 : (t.f0 != 3) = true := by first | simpa using hk | (simp; omega)
  have e71 : decide (t.f0 = 7) = false := decide_eq_false (by first | exact hk | omega)
  have e72 : (t.f0 == 7) = false := by first | simpa using hk | (simp; omega)
  have e73 : (t.f0 != 7) = true := by first | simpa using hk | (simp; omega)
  have e91 : decide (t.f0 = 9) = false := decide_eq_false (by first | exact hk | omega)
  have e92 : (t.f0 == 9) = false := by first | simpa using hk | (simp; omega)
  have e93 : (t.f0 != 9) = true := by first | simpa using hk | (simp; omega)
  have e81 : decide (t.f0 = 8) = false := decide_eq_false (by first | exact hk | omega)
  have e82 : (t.f0 == 8) = false := by first | simpa using hk | (simp; omega)
  have e83 : (t.f0 != 8) = true := by first | simpa using hk | (simp; omega)
  have e41 : decide (t.f0 = 4) = false := decide_eq_false (by first | exact hk | omega)
  have e42 : (t.f0 == 4) = false := by first | simpa using hk | (simp; omega)
  have e43 : (t.f0 != 4) = true := by first | simpa using hk | (simp; omega)
  have e51 : decide (t.f0 = 5) = false := decide_eq_false (by first | exact hk | omega)
  have e52 : (t.f0 == 5) = false := by first | simpa using hk | (simp; omega)
  have e53 : (t.f0 != 5) = true := by first | simpa using hk | (simp; omega)
  by_cases hz : v.f0 = 1
  · have HN : Aside0 (o = true) := ⟨by rw [HQ.out]; exact decide_eq_true hz⟩
    have z1 : decide (v.f0 = 1) = true := decide_eq_true (by first | exact hz | omega)
    have z2 : (v.f0 == 1) = true := by first | simpa using hz | (simp; omega)
    have z3 : (v.f0 != 1) = false := by first | simpa using hz | (simp; omega)
    clear hk hz b0
    go_enter Try.func43, Try.ntmps43
    go_wp2
    go_ret
    exact ⟨by rw [HN.out]; rfl, B0.out⟩
  · have HN : Aside0 (o = false) := ⟨by rw [HQ.out]; exact decide_eq_false hz⟩
    have z1 : decide (v.f0 = 1) = false := decide_eq_false (by first | exact hz | omega)
    have z2 : (v.f0 == 1) = false := by first | simpa using hz | (simp; omega)
    have z3 : (v.f0 != 1) = true := by first | simpa using hz | (simp; omega)
    clear hk hz b0
    go_enter Try.func43, Try.ntmps43
    go_wp2
    go_ret
    exact ⟨by rw [HN.out]; rfl, B0.out⟩
set_option maxHeartbeats 16000000 in
set_option maxRecDepth 100000 in
theorem is_2 (l : List Se) (n : Nat) (v : Vl) (t : Ty) (ol : Okl l) (ov : Okv v) (ot : Okt t) (hs : ∀ y, y ∈ v.f8 → IsC l (isB l n) y) {AL A6 A7 A8 A3 A4 : Option Addr} {cL c6 c7 c8 c3 c4 : Nat} {w : World} (hL : kSe.C w AL l.length l) (hv : RV w v A6 c6 A7 c7 A8 c8) (ht : RT w t A3 c3 A4 c4) (hk : t.f0 = 2) :
    Calls Try.prog 43 #[.slice AL l.length cL, vv v A6 c6 A7 c7 A8 c8, tv t A3 c3 A4 c4] w (BOut w (isB l (n + 1) v t)) := by
  obtain ⟨⟨kV, kT⟩, b0⟩ := twob w (vcells v A6 c6 A7 c7 A8 c8) (tarr t A3 c3 A4 c4) 55 25
  obtain ⟨⟨v0, v1, v2, v3, v4, v5, v6, v7, v8, v9⟩, _, lv⟩ := ten kV
  obtain ⟨⟨t0, t1, t2, t3, t4⟩, _, lt⟩ := five kT
  have hq := isB_2 (l := l) (n := n) (v := v) hk
  generalize isB l (n + 1) v t = o at hq ⊢
  have HQ := Aside0.mk hq
  have OL := Aside0.mk ol
  have OV := Aside0.mk ov
  have OT := Aside0.mk ot
  have HS := Aside0.mk hs
  have HL := Aside0.mk hL
  have HV := Aside0.mk hv
  have HT := Aside0.mk ht
  have B0 := Aside0.mk b0
  clear hq ol ov ot hs hL hv ht kV kT
  have e11 : decide (t.f0 = 1) = false := decide_eq_false (by first | exact hk | omega)
  have e12 : (t.f0 == 1) = false := by first | simpa using hk | (simp; omega)
  have e13 : (t.f0 != 1) = true := by first | simpa using hk | (simp; omega)
  have e21 : decide (t.f0 = 2) = true := decide_eq_true (by first | exact hk | omega)
  have e22 : (t.f0 == 2) = true := by first | simpa using hk | (simp; omega)
  have e23 : (t.f0 != 2) = false := by first | simpa using hk | (simp; omega)
  have e31 : decide (t.f0 = 3) = false := decide_eq_false (by first | exact hk | omega)
  have e32 : (t.f0 == 3) = false := by first | simpa using hk | (simp; omega)
  have e33 : (t.f0 != 3) = true := by first | simpa using hk | (simp; omega)
  have e71 : decide (t.f0 = 7) = false := decide_eq_false (by first | exact hk | omega)
  have e72 : (t.f0 == 7) = false := by first | simpa using hk | (simp; omega)
  have e73 : (t.f0 != 7) = true := by first | simpa using hk | (simp; omega)
  have e91 : decide (t.f0 = 9) = false := decide_eq_false (by first | exact hk | omega)
  have e92 : (t.f0 == 9) = false := by first | simpa using hk | (simp; omega)
  have e93 : (t.f0 != 9) = true := by first | simpa using hk | (simp; omega)
  have e81 : decide (t.f0 = 8) = false := decide_eq_false (by first | exact hk | omega)
  have e82 : (t.f0 == 8) = false := by first | simpa using hk | (simp; omega)
  have e83 : (t.f0 != 8) = true := by first | simpa using hk | (simp; omega)
  have e41 : decide (t.f0 = 4) = false := decide_eq_false (by first | exact hk | omega)
  have e42 : (t.f0 == 4) = false := by first | simpa using hk | (simp; omega)
  have e43 : (t.f0 != 4) = true := by first | simpa using hk | (simp; omega)
  have e51 : decide (t.f0 = 5) = false := decide_eq_false (by first | exact hk | omega)
  have e52 : (t.f0 == 5) = false := by first | simpa using hk | (simp; omega)
  have e53 : (t.f0 != 5) = true := by first | simpa using hk | (simp; omega)
  by_cases hz : v.f0 = 2
  · have HN : Aside0 (o = true) := ⟨by rw [HQ.out]; exact decide_eq_true hz⟩
    have z1 : decide (v.f0 = 2) = true := decide_eq_true (by first | exact hz | omega)
    have z2 : (v.f0 == 2) = true := by first | simpa using hz | (simp; omega)
    have z3 : (v.f0 != 2) = false := by first | simpa using hz | (simp; omega)
    clear hk hz b0
    go_enter Try.func43, Try.ntmps43
    go_wp2
    go_ret
    exact ⟨by rw [HN.out]; rfl, B0.out⟩
  · have HN : Aside0 (o = false) := ⟨by rw [HQ.out]; exact decide_eq_false hz⟩
    have z1 : decide (v.f0 = 2) = false := decide_eq_false (by first | exact hz | omega)
    have z2 : (v.f0 == 2) = false := by first | simpa using hz | (simp; omega)
    have z3 : (v.f0 != 2) = true := by first | simpa using hz | (simp; omega)
    clear hk hz b0
    go_enter Try.func43, Try.ntmps43
    go_wp2
    go_ret
    exact ⟨by rw [HN.out]; rfl, B0.out⟩
set_option maxHeartbeats 16000000 in
set_option maxRecDepth 100000 in
theorem is_3 (l : List Se) (n : Nat) (v : Vl) (t : Ty) (ol : Okl l) (ov : Okv v) (ot : Okt t) (hs : ∀ y, y ∈ v.f8 → IsC l (isB l n) y) {AL A6 A7 A8 A3 A4 : Option Addr} {cL c6 c7 c8 c3 c4 : Nat} {w : World} (hL : kSe.C w AL l.length l) (hv : RV w v A6 c6 A7 c7 A8 c8) (ht : RT w t A3 c3 A4 c4) (hk : t.f0 = 3) :
    Calls Try.prog 43 #[.slice AL l.length cL, vv v A6 c6 A7 c7 A8 c8, tv t A3 c3 A4 c4] w (BOut w (isB l (n + 1) v t)) := by
  obtain ⟨⟨kV, kT⟩, b0⟩ := twob w (vcells v A6 c6 A7 c7 A8 c8) (tarr t A3 c3 A4 c4) 55 25
  obtain ⟨⟨v0, v1, v2, v3, v4, v5, v6, v7, v8, v9⟩, _, lv⟩ := ten kV
  obtain ⟨⟨t0, t1, t2, t3, t4⟩, _, lt⟩ := five kT
  have hq := isB_3 (l := l) (n := n) (v := v) hk
  generalize isB l (n + 1) v t = o at hq ⊢
  have HQ := Aside0.mk hq
  have OL := Aside0.mk ol
  have OV := Aside0.mk ov
  have OT := Aside0.mk ot
  have HS := Aside0.mk hs
  have HL := Aside0.mk hL
  have HV := Aside0.mk hv
  have HT := Aside0.mk ht
  have B0 := Aside0.mk b0
  clear hq ol ov ot hs hL hv ht kV kT
  have e11 : decide (t.f0 = 1) = false := decide_eq_false (by first | exact hk | omega)
  have e12 : (t.f0 == 1) = false := by first | simpa using hk | (simp; omega)
  have e13 : (t.f0 != 1) = true := by first | simpa using hk | (simp; omega)
  have e21 : decide (t.f0 = 2) = false := decide_eq_false (by first | exact hk | omega)
  have e22 : (t.f0 == 2) = false := by first | simpa using hk | (simp; omega)
  have e23 : (t.f0 != 2) = true := by first | simpa using hk | (simp; omega)
  have e31 : decide (t.f0 = 3) = true := decide_eq_true (by first | exact hk | omega)
  have e32 : (t.f0 == 3) = true := by first | simpa using hk | (simp; omega)
  have e33 : (t.f0 != 3) = false := by first | simpa using hk | (simp; omega)
  have e71 : decide (t.f0 = 7) = false := decide_eq_false (by first | exact hk | omega)
  have e72 : (t.f0 == 7) = false := by first | simpa using hk | (simp; omega)
  have e73 : (t.f0 != 7) = true := by first | simpa using hk | (simp; omega)
  have e91 : decide (t.f0 = 9) = false := decide_eq_false (by first | exact hk | omega)
  have e92 : (t.f0 == 9) = false := by first | simpa using hk | (simp; omega)
  have e93 : (t.f0 != 9) = true := by first | simpa using hk | (simp; omega)
  have e81 : decide (t.f0 = 8) = false := decide_eq_false (by first | exact hk | omega)
  have e82 : (t.f0 == 8) = false := by first | simpa using hk | (simp; omega)
  have e83 : (t.f0 != 8) = true := by first | simpa using hk | (simp; omega)
  have e41 : decide (t.f0 = 4) = false := decide_eq_false (by first | exact hk | omega)
  have e42 : (t.f0 == 4) = false := by first | simpa using hk | (simp; omega)
  have e43 : (t.f0 != 4) = true := by first | simpa using hk | (simp; omega)
  have e51 : decide (t.f0 = 5) = false := decide_eq_false (by first | exact hk | omega)
  have e52 : (t.f0 == 5) = false := by first | simpa using hk | (simp; omega)
  have e53 : (t.f0 != 5) = true := by first | simpa using hk | (simp; omega)
  by_cases hz : v.f0 = 3
  · have HN : Aside0 (o = true) := ⟨by rw [HQ.out]; exact decide_eq_true hz⟩
    have z1 : decide (v.f0 = 3) = true := decide_eq_true (by first | exact hz | omega)
    have z2 : (v.f0 == 3) = true := by first | simpa using hz | (simp; omega)
    have z3 : (v.f0 != 3) = false := by first | simpa using hz | (simp; omega)
    clear hk hz b0
    go_enter Try.func43, Try.ntmps43
    go_wp2
    go_ret
    exact ⟨by rw [HN.out]; rfl, B0.out⟩
  · have HN : Aside0 (o = false) := ⟨by rw [HQ.out]; exact decide_eq_false hz⟩
    have z1 : decide (v.f0 = 3) = false := decide_eq_false (by first | exact hz | omega)
    have z2 : (v.f0 == 3) = false := by first | simpa using hz | (simp; omega)
    have z3 : (v.f0 != 3) = true := by first | simpa using hz | (simp; omega)
    clear hk hz b0
    go_enter Try.func43, Try.ntmps43
    go_wp2
    go_ret
    exact ⟨by rw [HN.out]; rfl, B0.out⟩
set_option maxHeartbeats 16000000 in
set_option maxRecDepth 100000 in
theorem is_7 (l : List Se) (n : Nat) (v : Vl) (t : Ty) (ol : Okl l) (ov : Okv v) (ot : Okt t) (hs : ∀ y, y ∈ v.f8 → IsC l (isB l n) y) {AL A6 A7 A8 A3 A4 : Option Addr} {cL c6 c7 c8 c3 c4 : Nat} {w : World} (hL : kSe.C w AL l.length l) (hv : RV w v A6 c6 A7 c7 A8 c8) (ht : RT w t A3 c3 A4 c4) (hk : t.f0 = 7) :
    Calls Try.prog 43 #[.slice AL l.length cL, vv v A6 c6 A7 c7 A8 c8, tv t A3 c3 A4 c4] w (BOut w (isB l (n + 1) v t)) := by
  obtain ⟨⟨kV, kT⟩, b0⟩ := twob w (vcells v A6 c6 A7 c7 A8 c8) (tarr t A3 c3 A4 c4) 55 25
  obtain ⟨⟨v0, v1, v2, v3, v4, v5, v6, v7, v8, v9⟩, _, lv⟩ := ten kV
  obtain ⟨⟨t0, t1, t2, t3, t4⟩, _, lt⟩ := five kT
  have hq := isB_7 (l := l) (n := n) (v := v) hk
  generalize isB l (n + 1) v t = o at hq ⊢
  have HQ := Aside0.mk hq
  have OL := Aside0.mk ol
  have OV := Aside0.mk ov
  have OT := Aside0.mk ot
  have HS := Aside0.mk hs
  have HL := Aside0.mk hL
  have HV := Aside0.mk hv
  have HT := Aside0.mk ht
  have B0 := Aside0.mk b0
  clear hq ol ov ot hs hL hv ht kV kT
  have e11 : decide (t.f0 = 1) = false := decide_eq_false (by first | exact hk | omega)
  have e12 : (t.f0 == 1) = false := by first | simpa using hk | (simp; omega)
  have e13 : (t.f0 != 1) = true := by first | simpa using hk | (simp; omega)
  have e21 : decide (t.f0 = 2) = false := decide_eq_false (by first | exact hk | omega)
  have e22 : (t.f0 == 2) = false := by first | simpa using hk | (simp; omega)
  have e23 : (t.f0 != 2) = true := by first | simpa using hk | (simp; omega)
  have e31 : decide (t.f0 = 3) = false := decide_eq_false (by first | exact hk | omega)
  have e32 : (t.f0 == 3) = false := by first | simpa using hk | (simp; omega)
  have e33 : (t.f0 != 3) = true := by first | simpa using hk | (simp; omega)
  have e71 : decide (t.f0 = 7) = true := decide_eq_true (by first | exact hk | omega)
  have e72 : (t.f0 == 7) = true := by first | simpa using hk | (simp; omega)
  have e73 : (t.f0 != 7) = false := by first | simpa using hk | (simp; omega)
  have e91 : decide (t.f0 = 9) = false := decide_eq_false (by first | exact hk | omega)
  have e92 : (t.f0 == 9) = false := by first | simpa using hk | (simp; omega)
  have e93 : (t.f0 != 9) = true := by first | simpa using hk | (simp; omega)
  have e81 : decide (t.f0 = 8) = false := decide_eq_false (by first | exact hk | omega)
  have e82 : (t.f0 == 8) = false := by first | simpa using hk | (simp; omega)
  have e83 : (t.f0 != 8) = true := by first | simpa using hk | (simp; omega)
  have e41 : decide (t.f0 = 4) = false := decide_eq_false (by first | exact hk | omega)
  have e42 : (t.f0 == 4) = false := by first | simpa using hk | (simp; omega)
  have e43 : (t.f0 != 4) = true := by first | simpa using hk | (simp; omega)
  have e51 : decide (t.f0 = 5) = false := decide_eq_false (by first | exact hk | omega)
  have e52 : (t.f0 == 5) = false := by first | simpa using hk | (simp; omega)
  have e53 : (t.f0 != 5) = true := by first | simpa using hk | (simp; omega)
  clear hk b0
  go_enter Try.func43, Try.ntmps43
  go_wp2_with fail
  refine (rfun_c v).mono ?_
  rintro e w1 ⟨rfl, hb⟩
  have B1 := Aside0.mk (chain B0.out hb)
  go_wp2
  go_ret
  exact ⟨by rw [HQ.out]; rfl, B1.out⟩
set_option maxHeartbeats 16000000 in
set_option maxRecDepth 100000 in
theorem is_no (l : List Se) (n : Nat) (v : Vl) (t : Ty) (ol : Okl l) (ov : Okv v) (ot : Okt t) (hs : ∀ y, y ∈ v.f8 → IsC l (isB l n) y) {AL A6 A7 A8 A3 A4 : Option Addr} {cL c6 c7 c8 c3 c4 : Nat} {w : World} (hL : kSe.C w AL l.length l) (hv : RV w v A6 c6 A7 c7 A8 c8) (ht : RT w t A3 c3 A4 c4) (k1 : ¬ t.f0 = 1) (k2 : ¬ t.f0 = 2) (k3 : ¬ t.f0 = 3) (k7 : ¬ t.f0 = 7) (k9 : ¬ t.f0 = 9) (k8 : ¬ t.f0 = 8) (k4 : ¬ t.f0 = 4) (k5 : ¬ t.f0 = 5) :
    Calls Try.prog 43 #[.slice AL l.length cL, vv v A6 c6 A7 c7 A8 c8, tv t A3 c3 A4 c4] w (BOut w (isB l (n + 1) v t)) := by
  obtain ⟨⟨kV, kT⟩, b0⟩ := twob w (vcells v A6 c6 A7 c7 A8 c8) (tarr t A3 c3 A4 c4) 55 25
  obtain ⟨⟨v0, v1, v2, v3, v4, v5, v6, v7, v8, v9⟩, _, lv⟩ := ten kV
  obtain ⟨⟨t0, t1, t2, t3, t4⟩, _, lt⟩ := five kT
  have hq := isB_no (l := l) (n := n) (v := v) k1 k2 k3 k7 k9 k8 k4 k5
  generalize isB l (n + 1) v t = o at hq ⊢
  have HQ := Aside0.mk hq
  have OL := Aside0.mk ol
  have OV := Aside0.mk ov
  have OT := Aside0.mk ot
  have HS := Aside0.mk hs
  have HL := Aside0.mk hL
  have HV := Aside0.mk hv
  have HT := Aside0.mk ht
  have B0 := Aside0.mk b0
  clear hq ol ov ot hs hL hv ht kV kT
  have e11 : decide (t.f0 = 1) = false := decide_eq_false (by first | exact k1 | omega)
  have e12 : (t.f0 == 1) = false := by first | simpa using k1 | (simp; omega)
  have e13 : (t.f0 != 1) = true := by first | simpa using k1 | (simp; omega)
  have e21 : decide (t.f0 = 2) = false := decide_eq_false (by first | exact k2 | omega)
  have e22 : (t.f0 == 2) = false := by first | simpa using k2 | (simp; omega)
  have e23 : (t.f0 != 2) = true := by first | simpa using k2 | (simp; omega)
  have e31 : decide (t.f0 = 3) = false := decide_eq_false (by first | exact k3 | omega)
  have e32 : (t.f0 == 3) = false := by first | simpa using k3 | (simp; omega)
  have e33 : (t.f0 != 3) = true := by first | simpa using k3 | (simp; omega)
  have e71 : decide (t.f0 = 7) = false := decide_eq_false (by first | exact k7 | omega)
  have e72 : (t.f0 == 7) = false := by first | simpa using k7 | (simp; omega)
  have e73 : (t.f0 != 7) = true := by first | simpa using k7 | (simp; omega)
  have e91 : decide (t.f0 = 9) = false := decide_eq_false (by first | exact k9 | omega)
  have e92 : (t.f0 == 9) = false := by first | simpa using k9 | (simp; omega)
  have e93 : (t.f0 != 9) = true := by first | simpa using k9 | (simp; omega)
  have e81 : decide (t.f0 = 8) = false := decide_eq_false (by first | exact k8 | omega)
  have e82 : (t.f0 == 8) = false := by first | simpa using k8 | (simp; omega)
  have e83 : (t.f0 != 8) = true := by first | simpa using k8 | (simp; omega)
  have e41 : decide (t.f0 = 4) = false := decide_eq_false (by first | exact k4 | omega)
  have e42 : (t.f0 == 4) = false := by first | simpa using k4 | (simp; omega)
  have e43 : (t.f0 != 4) = true := by first | simpa using k4 | (simp; omega)
  have e51 : decide (t.f0 = 5) = false := decide_eq_false (by first | exact k5 | omega)
  have e52 : (t.f0 == 5) = false := by first | simpa using k5 | (simp; omega)
  have e53 : (t.f0 != 5) = true := by first | simpa using k5 | (simp; omega)
  clear k1 k2 k3 k7 k9 k8 k4 k5 b0
  go_enter Try.func43, Try.ntmps43
  go_wp2
  go_ret
  exact ⟨by rw [HQ.out]; rfl, B0.out⟩
set_option maxHeartbeats 16000000 in
set_option maxRecDepth 100000 in
theorem is_9 (l : List Se) (n : Nat) (v : Vl) (t : Ty) (ol : Okl l) (ov : Okv v) (ot : Okt t) (hs : ∀ y, y ∈ v.f8 → IsC l (isB l n) y) {AL A6 A7 A8 A3 A4 : Option Addr} {cL c6 c7 c8 c3 c4 : Nat} {w : World} (hL : kSe.C w AL l.length l) (hv : RV w v A6 c6 A7 c7 A8 c8) (ht : RT w t A3 c3 A4 c4) (hk : t.f0 = 9) :
    Calls Try.prog 43 #[.slice AL l.length cL, vv v A6 c6 A7 c7 A8 c8, tv t A3 c3 A4 c4] w (BOut w (isB l (n + 1) v t)) := by
  obtain ⟨⟨kV, kT⟩, b0⟩ := twob w (vcells v A6 c6 A7 c7 A8 c8) (tarr t A3 c3 A4 c4) 55 25
  obtain ⟨⟨v0, v1, v2, v3, v4, v5, v6, v7, v8, v9⟩, _, lv⟩ := ten kV
  obtain ⟨⟨t0, t1, t2, t3, t4⟩, _, lt⟩ := five kT
  have hq := isB_9 (l := l) (n := n) (v := v) hk
  generalize isB l (n + 1) v t = o at hq ⊢
  have HQ := Aside0.mk hq
  have OL := Aside0.mk ol
  have OV := Aside0.mk ov
  have OT := Aside0.mk ot
  have HS := Aside0.mk hs
  have HL := Aside0.mk hL
  have HV := Aside0.mk hv
  have HT := Aside0.mk ht
  have B0 := Aside0.mk b0
  clear hq ol ov ot hs hL hv ht kV kT
  have e11 : decide (t.f0 = 1) = false := decide_eq_false (by first | exact hk | omega)
  have e12 : (t.f0 == 1) = false := by first | simpa using hk | (simp; omega)
  have e13 : (t.f0 != 1) = true := by first | simpa using hk | (simp; omega)
  have e21 : decide (t.f0 = 2) = false := decide_eq_false (by first | exact hk | omega)
  have e22 : (t.f0 == 2) = false := by first | simpa using hk | (simp; omega)
  have e23 : (t.f0 != 2) = true := by first | simpa using hk | (simp; omega)
  have e31 : decide (t.f0 = 3) = false := decide_eq_false (by first | exact hk | omega)
  have e32 : (t.f0 == 3) = false := by first | simpa using hk | (simp; omega)
  have e33 : (t.f0 != 3) = true := by first | simpa using hk | (simp; omega)
  have e71 : decide (t.f0 = 7) = false := decide_eq_false (by first | exact hk | omega)
  have e72 : (t.f0 == 7) = false := by first | simpa using hk | (simp; omega)
  have e73 : (t.f0 != 7) = true := by first | simpa using hk | (simp; omega)
  have e91 : decide (t.f0 = 9) = true := decide_eq_true (by first | exact hk | omega)
  have e92 : (t.f0 == 9) = true := by first | simpa using hk | (simp; omega)
  have e93 : (t.f0 != 9) = false := by first | simpa using hk | (simp; omega)
  have e81 : decide (t.f0 = 8) = false := decide_eq_false (by first | exact hk | omega)
  have e82 : (t.f0 == 8) = false := by first | simpa using hk | (simp; omega)
  have e83 : (t.f0 != 8) = true := by first | simpa using hk | (simp; omega)
  have e41 : decide (t.f0 = 4) = false := decide_eq_false (by first | exact hk | omega)
  have e42 : (t.f0 == 4) = false := by first | simpa using hk | (simp; omega)
  have e43 : (t.f0 != 4) = true := by first | simpa using hk | (simp; omega)
  have e51 : decide (t.f0 = 5) = false := decide_eq_false (by first | exact hk | omega)
  have e52 : (t.f0 == 5) = false := by first | simpa using hk | (simp; omega)
  have e53 : (t.f0 != 5) = true := by first | simpa using hk | (simp; omega)
  by_cases h8 : v.f0 = 8
  · by_cases hn : v.f1 = t.f1
    · have HN : Aside0 (o = sealB l (isB l n) v) := ⟨by rw [HQ.out, if_pos h8, if_pos hn]⟩
      have z1 : decide (v.f0 = 8) = true := decide_eq_true (by first | exact h8 | omega)
      have z2 : (v.f0 == 8) = true := by first | simpa using h8 | (simp; omega)
      have z3 : (v.f0 != 8) = false := by first | simpa using h8 | (simp; omega)
      have y1 : decide (v.f1 = t.f1) = true := decide_eq_true (by first | exact hn | omega)
      have y2 : (v.f1 == t.f1) = true := by first | simpa using hn | (simp; omega)
      have y3 : (v.f1 != t.f1) = false := by first | simpa using hn | (simp; omega)
      clear hk h8 hn
      have HC := Aside0.mk (sealed_c l (isB l n) v OL.out HS.out (cL := cL) (Kd.C_below HL.out b0) (HV.out.below b0))
      clear b0
      go_enter Try.func43, Try.ntmps43
      go_wp2_with fail
      refine HC.out.mono ?_
      rintro e w1 ⟨rfl, hb⟩
      have B1 := Aside0.mk (chain B0.out hb)
      go_wp2
      go_ret
      exact ⟨by rw [HN.out]; rfl, B1.out⟩
    · have HN : Aside0 (o = false) := ⟨by rw [HQ.out, if_pos h8, if_neg hn]⟩
      have z1 : decide (v.f0 = 8) = true := decide_eq_true (by first | exact h8 | omega)
      have z2 : (v.f0 == 8) = true := by first | simpa using h8 | (simp; omega)
      have z3 : (v.f0 != 8) = false := by first | simpa using h8 | (simp; omega)
      have y1 : decide (v.f1 = t.f1) = false := decide_eq_false (by first | exact hn | omega)
      have y2 : (v.f1 == t.f1) = false := by first | simpa using hn | (simp; omega)
      have y3 : (v.f1 != t.f1) = true := by first | simpa using hn | (simp; omega)
      clear hk h8 hn b0
      go_enter Try.func43, Try.ntmps43
      go_wp2
      go_ret
      exact ⟨by rw [HN.out]; rfl, B0.out⟩
  · have HN : Aside0 (o = false) := ⟨by rw [HQ.out, if_neg h8]⟩
    have z1 : decide (v.f0 = 8) = false := decide_eq_false (by first | exact h8 | omega)
    have z2 : (v.f0 == 8) = false := by first | simpa using h8 | (simp; omega)
    have z3 : (v.f0 != 8) = true := by first | simpa using h8 | (simp; omega)
    clear hk h8 b0
    go_enter Try.func43, Try.ntmps43
    go_wp2
    go_ret
    exact ⟨by rw [HN.out]; rfl, B0.out⟩
end Go.Proofs.Ytnfnhjhnfdkinaa.PConvBack

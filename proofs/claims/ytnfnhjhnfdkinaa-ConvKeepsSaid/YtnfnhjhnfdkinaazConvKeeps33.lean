/-
  ConvKeeps: texts of this claim, put together by a program of this session. No conditions beyond what each lemma says.
-/
import Derived.Test.YtnfnhjhnfdkinaazConvKeeps32
namespace Go.Proofs.Ytnfnhjhnfdkinaa.PConvBack
open Go.RowKit Go.Proofs.YtnfnhjhnfdkinaaW.Mine Go.Proofs.YtnfnhjhnfdkinaaW.PrintWords Go.Proofs.YtnfnhjhnfdkinaaW.PrintLast Go.Proofs.YtnfnhjhnfdkinaaW.PrintMore
attribute [local go_sem] max2_int min2_int max_two min_two max_three min_three max_four min_four
set_option linter.unusedVariables false
set_option linter.unusedSimpArgs false
theorem twob (w : World) (c d : Array Value) (t1 t2 : TypeId) : let W := (w.alloc (.cells c t1)).alloc (.cells d t2)
    (W.heap[w.heap.size]? = some (.cells c t1 (0, 0)) ∧ W.heap[w.heap.size + 1]? = some (.cells d t2 (0, 0))) ∧ Below w.heap.size w W := by
  have k1 := blk_new (w.alloc (.cells c t1)) (.cells d t2)
  simp only [World.size_alloc] at k1
  exact ⟨⟨blk_alloc (blk_new w _) _, k1⟩, chain (below_alloc1 _ _) (below_alloc1 _ _)⟩
set_option maxRecDepth 100000 in
theorem rfun_c (v : Vl) {A6 A7 A8 : Option Addr} {c6 c7 c8 : Nat} {w : World} : Calls Try.prog 79 #[vv v A6 c6 A7 c7 A8 c8] w (BOut w (funB v)) := by
  have kV := blk_new w (.cells (vcells v A6 c6 A7 c7 A8 c8) 55)
  have b0 := below_alloc1 w (.cells (vcells v A6 c6 A7 c7 A8 c8) 55)
  obtain ⟨⟨v0, v1, v2, v3, v4, v5, v6, v7, v8, v9⟩, _, lv⟩ := ten kV
  have hq : funB v = (decide (v.f0 = 5) || (decide (v.f0 = 6) || decide (v.f0 = 7))) := rfl
  generalize funB v = o at hq ⊢
  have HQ := Aside0.mk hq
  have B0 := Aside0.mk b0
  clear hq b0 kV
  by_cases h5 : v.f0 = 5
  · have HN : Aside0 (o = true) := ⟨by rw [HQ.out]; simp [h5]⟩
    have a1 : decide (v.f0 = 5) = true := decide_eq_true (by first | exact h5 | omega)
    have a2 : (v.f0 == 5) = true := by (first | simpa using h5 | (simp; omega))
    have a3 : (v.f0 != 5) = false := by (first | simpa using h5 | (simp; omega))
    clear h5
    go_enter Try.func79, Try.ntmps79
    go_wp2
    go_ret
    exact ⟨by rw [HN.out]; rfl, B0.out⟩
  by_cases h6 : v.f0 = 6
  · have HN : Aside0 (o = true) := ⟨by rw [HQ.out]; simp [h6]⟩
    have a1 : decide (v.f0 = 5) = false := decide_eq_false (by first | exact h5 | omega)
    have a2 : (v.f0 == 5) = false := by (first | simpa using h5 | (simp; omega))
    have a3 : (v.f0 != 5) = true := by (first | simpa using h5 | (simp; omega))
    have b1 : decide (v.f0 = 6) = true := decide_eq_true (by first | exact h6 | omega)
    have b2 : (v.f0 == 6) = true := by (first | simpa using h6 | (simp; omega))
    have b3 : (v.f0 != 6) = false := by (first | simpa using h6 | (simp; omega))
    clear h6
    go_enter Try.func79, Try.ntmps79
    go_wp2
    go_ret
    exact ⟨by rw [HN.out]; rfl, B0.out⟩
  by_cases h7 : v.f0 = 7
  · have HN : Aside0 (o = true) := ⟨by rw [HQ.out]; simp [h7]⟩
    have a1 : decide (v.f0 = 5) = false := decide_eq_false (by first | exact h5 | omega)
    have a2 : (v.f0 == 5) = false := by (first | simpa using h5 | (simp; omega))
    have a3 : (v.f0 != 5) = true := by (first | simpa using h5 | (simp; omega))
    have b1 : decide (v.f0 = 6) = false := decide_eq_false (by first | exact h6 | omega)
    have b2 : (v.f0 == 6) = false := by (first | simpa using h6 | (simp; omega))
    have b3 : (v.f0 != 6) = true := by (first | simpa using h6 | (simp; omega))
    have d1 : decide (v.f0 = 7) = true := decide_eq_true (by first | exact h7 | omega)
    have d2 : (v.f0 == 7) = true := by (first | simpa using h7 | (simp; omega))
    have d3 : (v.f0 != 7) = false := by (first | simpa using h7 | (simp; omega))
    clear h7
    go_enter Try.func79, Try.ntmps79
    go_wp2
    go_ret
    exact ⟨by rw [HN.out]; rfl, B0.out⟩
  have HN : Aside0 (o = false) := ⟨by rw [HQ.out]; simp [h5, h6, h7]⟩
  have a1 : decide (v.f0 = 5) = false := decide_eq_false (by first | exact h5 | omega)
  have a2 : (v.f0 == 5) = false := by (first | simpa using h5 | (simp; omega))
  have a3 : (v.f0 != 5) = true := by (first | simpa using h5 | (simp; omega))
  have b1 : decide (v.f0 = 6) = false := decide_eq_false (by first | exact h6 | omega)
  have b2 : (v.f0 == 6) = false := by (first | simpa using h6 | (simp; omega))
  have b3 : (v.f0 != 6) = true := by (first | simpa using h6 | (simp; omega))
  have d1 : decide (v.f0 = 7) = false := decide_eq_false (by first | exact h7 | omega)
  have d2 : (v.f0 == 7) = false := by (first | simpa using h7 | (simp; omega))
  have d3 : (v.f0 != 7) = true := by (first | simpa using h7 | (simp; omega))
  go_enter Try.func79, Try.ntmps79
  go_wp2
  go_ret
  exact ⟨by rw [HN.out]; rfl, B0.out⟩
set_option maxRecDepth 100000 in
theorem dyn_c {w : World} : Calls Try.prog 52 #[] w fun e w' => e = .returned (tv dynT none 0 none 0) ∧ Below w.heap.size w w' := by
  have kN := blk_new w (.cells (tarr dynT none 0 none 0) 25)
  have b0 := below_alloc1 w (.cells (tarr dynT none 0 none 0) 25)
  have KN := Aside0.mk kN
  have BN := Aside0.mk b0
  clear kN b0
  go_enter Try.func52, Try.ntmps52
  go_wp2
  (try simp only [Exit.inBlock, Exit.then]); refine bodyPost_ret (results_cell_row rfl _ _ _ 25 _ (0, 0) _ rfl KN.out Try.underlying25 rfl (by kernel_rfl)) rfl ?_
  exact ⟨rfl, BN.out⟩
theorem isB_succ (l : List Se) (n : Nat) (v : Vl) (t : Ty) : isB l (n + 1) v t = (if t.f0 = 1 then decide (v.f0 = 1) else if t.f0 = 2 then decide (v.f0 = 2) else if t.f0 = 3 then decide (v.f0 = 3) else if t.f0 = 7 then funB v else if t.f0 = 9 then (if v.f0 = 8 then (if v.f1 = t.f1 then sealB l (isB l n) v else false) else false) else if t.f0 = 8 then (if v.f0 = 4 ∧ v.f7 = t.f3 ∧ v.f8.length = t.f4.length then allTwo (isB l n) v.f8 t.f4 else false) else if t.f0 = 4 ∨ t.f0 = 5 then (if v.f0 = 8 then sealB l (isB l n) v else if v.f0 = 4 then v.f8.all (fun k => isB l n k dynT) else (decide (v.f0 = 1) || (decide (v.f0 = 2) || (decide (v.f0 = 3) || funB v)))) else false) := rfl
section
variable {l : List Se} {n : Nat} {v : Vl} {t : Ty}
theorem isB_1 (h : t.f0 = 1) : isB l (n + 1) v t = decide (v.f0 = 1) := by rw [isB_succ, if_pos h]
theorem isB_2 (h : t.f0 = 2) : isB l (n + 1) v t = decide (v.f0 = 2) := by rw [isB_succ, if_neg (by omega), if_pos h]
theorem isB_3 (h : t.f0 = 3) : isB l (n + 1) v t = decide (v.f0 = 3) := by rw [isB_succ, if_neg (by omega), if_neg (by omega), if_pos h]
theorem isB_7 (h : t.f0 = 7) : isB l (n + 1) v t = funB v := by rw [isB_succ, if_neg (by omega), if_neg (by omega), if_neg (by omega), if_pos h]
theorem isB_9 (h : t.f0 = 9) : isB l (n + 1) v t = if v.f0 = 8 then (if v.f1 = t.f1 then sealB l (isB l n) v else false) else false := by rw [isB_succ, if_neg (by omega), if_neg (by omega), if_neg (by omega), if_neg (by omega), if_pos h]
theorem isB_8 (h : t.f0 = 8) : isB l (n + 1) v t = if v.f0 = 4 ∧ v.f7 = t.f3 ∧ v.f8.length = t.f4.length then allTwo (isB l n) v.f8 t.f4 else false := by rw [isB_succ, if_neg (by omega), if_neg (by omega), if_neg (by omega), if_neg (by omega), if_neg (by omega), if_pos h]
theorem isB_t (h : t.f0 = 4 ∨ t.f0 = 5) : isB l (n + 1) v t = if v.f0 = 8 then sealB l (isB l n) v else if v.f0 = 4 then v.f8.all (fun k => isB l n k dynT) else (decide (v.f0 = 1) || (decide (v.f0 = 2) || (decide (v.f0 = 3) || funB v))) := by rw [isB_succ, if_neg (by omega), if_neg (by omega), if_neg (by omega), if_neg (by omega), if_neg (by omega), if_neg (by omega), if_pos h]
theorem isB_no (h1 : ¬ t.f0 = 1) (h2 : ¬ t.f0 = 2) (h3 : ¬ t.f0 = 3) (h7 : ¬ t.f0 = 7) (h9 : ¬ t.f0 = 9) (h8 : ¬ t.f0 = 8) (h4 : ¬ t.f0 = 4) (h5 : ¬ t.f0 = 5) : isB l (n + 1) v t = false := by rw [isB_succ, if_neg h1, if_neg h2, if_neg h3, if_neg h7, if_neg h9, if_neg h8, if_neg (by omega)]
end
theorem allTwo_all {f : Vl → Ty → Bool} : ∀ {l : List Vl} {m : List Ty}, l.length = m.length → (∀ j (h : j < l.length) (h' : j < m.length), f l[j] m[j] = true) → allTwo f l m = true
  | [], [], _, _ => rfl
  | a :: l, b :: m, he, h => by
    have h0 := h 0 (by simp) (by simp)
    have h1 := allTwo_all (l := l) (m := m) (by simpa using he) (fun j hj hj' => by have := h (j + 1) (by simpa using hj) (by simpa using hj'); simpa using this)
    simp only [List.getElem_cons_zero] at h0
    simp [allTwo, h0, h1]
  | [], _ :: _, he, _ => by simp at he
  | _ :: _, [], he, _ => by simp at he
theorem allTwo_not {f : Vl → Ty → Bool} : ∀ {l : List Vl} {m : List Ty} (j : Nat) (h : j < l.length) (h' : j < m.length), f l[j] m[j] = false → allTwo f l m = false
  | a :: l, b :: m, 0, _, _, h => by simp only [List.getElem_cons_zero] at h; simp [allTwo, h]
  | a :: l, b :: m, j + 1, h1, h2, h => by
    have := allTwo_not (l := l) (m := m) j (by simpa using h1) (by simpa using h2) (by simpa using h)
    simp [allTwo, this]
theorem all_all {f : Vl → Bool} {l : List Vl} (h : ∀ j (h : j < l.length), f l[j] = true) : l.all f = true := by
  rw [List.all_eq_true]
  intro x hx
  obtain ⟨j, hj, rfl⟩ := List.mem_iff_getElem.1 hx
  exact h j hj
theorem all_not {f : Vl → Bool} {l : List Vl} {j : Nat} (hj : j < l.length) (h : f l[j] = false) : l.all f = false := by
  rw [List.all_eq_false]
  exact ⟨l[j], List.getElem_mem hj, by rw [h]; decide⟩
theorem size_kids (x : Vl) (y : Vl) (hy : y ∈ x.f8) : SizeOf.sizeOf y < SizeOf.sizeOf x := by
  have := List.sizeOf_lt_of_mem hy
  cases x
  simp at this ⊢
  omega
theorem okt_dyn : Okt dynT := .mk _ (by simp) (by simp) (fun y hy => by simp at hy)
end Go.Proofs.Ytnfnhjhnfdkinaa.PConvBack

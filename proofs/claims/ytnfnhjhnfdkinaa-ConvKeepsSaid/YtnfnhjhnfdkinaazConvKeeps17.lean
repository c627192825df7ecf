/-
  ConvKeeps: texts of this claim, put together by a program of this session. No conditions beyond what each lemma says.
-/
import Derived.Test.YtnfnhjhnfdkinaazConvKeeps16
namespace Go.Proofs.Ytnfnhjhnfdkinaa.PConvBack
open Go.RowKit Go.Proofs.YtnfnhjhnfdkinaaW.Mine Go.Proofs.YtnfnhjhnfdkinaaW.PrintWords Go.Proofs.YtnfnhjhnfdkinaaW.PrintLast Go.Proofs.YtnfnhjhnfdkinaaW.PrintMore
attribute [local go_sem] max2_int min2_int max_two min_two max_three min_three max_four min_four
set_option linter.unusedVariables false
set_option linter.unusedSimpArgs false
theorem threeb (w : World) (c d e : Array Value) (t1 t2 t3 : TypeId) : let W := ((w.alloc (.cells c t1)).alloc (.cells d t2)).alloc (.cells e t3)
    (W.heap[w.heap.size]? = some (.cells c t1 (0, 0)) ∧ W.heap[w.heap.size + 1]? = some (.cells d t2 (0, 0)) ∧ W.heap[w.heap.size + 1 + 1]? = some (.cells e t3 (0, 0))) ∧ Below w.heap.size w W ∧ W.heap.size = w.heap.size + 1 + 1 + 1 := by
  have k1 := blk_new (w.alloc (.cells c t1)) (.cells d t2)
  have k2 := blk_new ((w.alloc (.cells c t1)).alloc (.cells d t2)) (.cells e t3)
  simp only [World.size_alloc] at k1 k2
  exact ⟨⟨blk_alloc (blk_alloc (blk_new w _) _) _, blk_alloc k1 _, k2⟩, chain (chain (below_alloc1 _ _) (below_alloc1 _ _)) (below_alloc1 _ _), by simp only [World.size_alloc]⟩
theorem fourb (w : World) (c1 c2 c3 c4 : Array Value) (t1 t2 t3 t4 : TypeId) : let W := (((w.alloc (.cells c1 t1)).alloc (.cells c2 t2)).alloc (.cells c3 t3)).alloc (.cells c4 t4)
    (W.heap[w.heap.size]? = some (.cells c1 t1 (0, 0)) ∧ W.heap[w.heap.size + 1]? = some (.cells c2 t2 (0, 0)) ∧ W.heap[w.heap.size + 1 + 1]? = some (.cells c3 t3 (0, 0)) ∧ W.heap[w.heap.size + 1 + 1 + 1]? = some (.cells c4 t4 (0, 0))) ∧ Below w.heap.size w W ∧ W.heap.size = w.heap.size + 1 + 1 + 1 + 1 := by
  have k1 := blk_new (w.alloc (.cells c1 t1)) (.cells c2 t2)
  have k2 := blk_new ((w.alloc (.cells c1 t1)).alloc (.cells c2 t2)) (.cells c3 t3)
  have k3 := blk_new (((w.alloc (.cells c1 t1)).alloc (.cells c2 t2)).alloc (.cells c3 t3)) (.cells c4 t4)
  simp only [World.size_alloc] at k1 k2 k3
  exact ⟨⟨blk_alloc (blk_alloc (blk_alloc (blk_new w _) _) _) _, blk_alloc (blk_alloc k1 _) _, blk_alloc k2 _, k3⟩, chain (chain (chain (below_alloc1 _ _) (below_alloc1 _ _)) (below_alloc1 _ _)) (below_alloc1 _ _), by simp only [World.size_alloc]⟩
theorem C_lit {α : Type} (d : Kd α) {w : World} {g : Nat} {xs : List α} {inner : List Value} {ty : TypeId} (h : w.heap[g]? = some (.cells inner.toArray ty (0, 0))) (hr : Reps (d.K w) d.sz xs inner) (hm : xs.length ≤ 9223372036854775807) : d.C w (some ⟨g, 0, none⟩) xs.length xs := by
  refine ⟨rfl, hm, fun _ => ⟨_, rfl, fun j p hj => ?_⟩⟩
  have hlt : j < xs.length := (List.getElem?_eq_some_iff.1 hj).1
  have h1 : j * d.sz + d.sz ≤ inner.length := by rw [hr.1, ← Nat.succ_mul]; exact Nat.mul_le_mul_right _ hlt
  refine ⟨(inner.drop (j * d.sz)).take d.sz, by rw [List.length_take, List.length_drop]; omega, hr.2 j p hj, fun i u hu => ?_⟩
  have e : (Addr.add ⟨g, 0, none⟩ (j * d.sz + i) : Addr) = ⟨g, j * d.sz + i, none⟩ := by rw [Addr.add_lit, Nat.zero_add]
  rw [e, blk_cell h]
  have hi : i < d.sz := by
    have := (List.getElem?_eq_some_iff.1 hu).1
    rw [List.length_take] at this; omega
  rw [List.getElem?_take_of_lt hi, List.getElem?_drop] at hu
  simpa using hu
theorem reps_one {α : Type} {R : α → List Value → Prop} {sz : Nat} {p : α} {c : List Value} (h : R p c) (hc : c.length = sz) : Reps R sz [p] c := by
  have := (Reps.none R sz).snoc h hc
  simpa using this
theorem F_lit {α : Type} (d : Kd α) {w : World} {ok : Nat → Prop} {g : Nat} {xs : List α} {inner : List Value} {ty : TypeId} (h : w.heap[g]? = some (.cells inner.toArray ty (0, 0))) (hok : ok g) (hr : Reps (Kd.FK d w ok) d.sz xs inner) (hm : xs.length ≤ 9223372036854775807) : Kd.F d w ok (some ⟨g, 0, none⟩) xs.length xs := fun W' hW =>
  C_lit d ((hW g hok (blk_lt h)).trans h) (hr.imp_ (fun p c hp => hp W' hW)) hm
theorem V_one {w : World} {ok : Nat → Prop} {g : Nat} {x : Vl} {A6 A7 A8 : Option Addr} {c6 c7 c8 : Nat} (hk : w.heap[g]? = some (.cells (vcells x A6 c6 A7 c7 A8 c8) 55 (0, 0))) (hg : ok g) (h : FV w ok x A6 c6 A7 c7 A8 c8) : Kd.F kVl w ok (some ⟨g, 0, none⟩) 1 [x] :=
  F_lit kVl (xs := [x]) (inner := vlist x A6 c6 A7 c7 A8 c8) hk hg (reps_one h.fk rfl) (by simp)
def sealV (inn : Bool) (v : Vl) (n : Int) : Option Vl := if inn = true then some ⟨8, n, 0, false, ⟨#[]⟩, z52, [], [], [v]⟩ else if v.f0 = 8 ∧ v.f1 = n ∧ v.f8.length = 1 then some (v.f8.getD 0 zV) else none
theorem sealV_in (v : Vl) (n : Int) : sealV true v n = some ⟨8, n, 0, false, ⟨#[]⟩, z52, [], [], [v]⟩ := rfl
theorem sealV_no {v : Vl} {n : Int} (h : ¬ (v.f0 = 8 ∧ v.f1 = n ∧ v.f8.length = 1)) : sealV false v n = none := by unfold sealV; rw [if_neg (by decide), if_neg h]
theorem sealV_yes {v : Vl} {n : Int} (h0 : v.f0 = 8) (h1 : v.f1 = n) (h2 : v.f8.length = 1) : sealV false v n = some (v.f8[0]'(by omega)) := by
  unfold sealV; rw [if_neg (by decide), if_pos ⟨h0, h1, h2⟩, List.getD_eq_getElem?_getD, List.getElem?_eq_getElem (by omega)]; rfl
set_option maxHeartbeats 4000000 in
set_option maxRecDepth 100000 in
theorem seal_c (lo up : Int) (inn : Bool) (v : Vl) (n : Int) {ok : Nat → Prop} {A6 A7 A8 : Option Addr} {c6 c7 c8 : Nat} {w : World} (hok : ∀ k, ok k → k < w.heap.size) (hv : FV w ok v A6 c6 A7 c7 A8 c8) :
    Calls Try.prog 98 #[wy lo up inn, vv v A6 c6 A7 c7 A8 c8, .int .i64 n] w (VOut w (fun k => ok k ∨ w.heap.size ≤ k) (sealV inn v n)) := by
  obtain ⟨⟨kW, kV, kR⟩, b0, sz0⟩ := threeb w (wcells lo up inn) (vcells v A6 c6 A7 c7 A8 c8) zcells 92 55 55
  obtain ⟨⟨y0, y1, y2⟩, _, lw⟩ := three kW
  obtain ⟨⟨v0, v1, v2, v3, v4, v5, v6, v7, v8, v9⟩, _, lv⟩ := ten kV
  have SZ := Aside0.mk sz0
  clear sz0
  cases inn with
  | true =>
    rw [sealV_in]
    obtain ⟨⟨_, _, kN, kL⟩, bN, szN⟩ := fourb w (wcells lo up true) (vcells v A6 c6 A7 c7 A8 c8) #[.int .i64 8, .int .i64 n, .int .i64 0, .bool false, .string ⟨#[]⟩, .string ⟨#[]⟩, .int .i64 0, .slice none 0 0, .slice none 0 0, .slice (some ⟨w.heap.size + 1 + 1 + 1, 0, none⟩) 1 1] (vcells v A6 c6 A7 c7 A8 c8) 92 55 55 55
    have KN := Aside0.mk kN
    have KL := Aside0.mk kL
    have BN := Aside0.mk bN
    clear kN kL bN szN
    go_enter Try.func98, Try.ntmps98
    go_wp2
    (try simp only [Exit.inBlock, Exit.then]); refine bodyPost_ret (results_ct rfl _ _ _ 55 _ (0, 0) _ rfl KN.out Try.underlying55 rfl (by kernel_rfl)) rfl ?_
    refine VOut.yes (u := ⟨8, n, 0, false, ⟨#[]⟩, z52, [], [], [v]⟩) (A6 := none) (c6 := 0) (A7 := none) (c7 := 0) (A8 := some ⟨w.heap.size + 1 + 1 + 1, 0, none⟩) (c8 := 1) BN.out rfl ?_
    exact ⟨Nat.le_refl _, Kd.F_nil _ _ _, Nat.le_refl _, Kd.F_nil _ _ _, Nat.le_refl _, V_one KL.out (.inr (by omega)) ((hv.below BN.out).mono (fun k hk => .inl hk))⟩
  | false =>
    by_cases h8 : v.f0 = 8
    · by_cases hn : v.f1 = n
      · by_cases hl : v.f8.length = 1
        · have HQ := Aside0.mk (sealV_yes h8 hn hl)
          have a1 : decide (v.f0 = 8) = true := decide_eq_true h8
          have a2 : (v.f0 == 8) = true := by simpa using h8
          have a3 : (v.f0 != 8) = false := by simpa using h8
          have b1 : decide (v.f1 = n) = true := decide_eq_true hn
          have b2 : (v.f1 == n) = true := by simpa using hn
          have b3 : (v.f1 != n) = false := by simpa using hn
          have d1 : decide ((v.f8.length : Int) = 1) = true := decide_eq_true (by omega)
          have d2 : ((v.f8.length : Int) == 1) = true := by simp; omega
          have d3 : ((v.f8.length : Int) != 1) = false := by simp; omega
          have d4 : decide (v.f8.length = 1) = true := decide_eq_true hl
          have HL := Aside0.mk hl
          have i0 : (0 : Int) < (v.f8.length : Int) := by omega
          have i1 : 0 < v.f8.length := by omega
          obtain ⟨ad, X6, e6, X7, e7, X8, e8, hA, fx, x0, x1, x2, x3, x4, x5, x6, x7, x8, x9⟩ := velt hv.2.2.2.2.2 0 i1
          rw [show ad.add (0 * 10) = ad from rfl] at x0 x1 x2 x3 x4 x5 x6 x7 x8 x9
          subst hA
          rw [HQ.out]
          generalize v.f8[0] = y at *
          replace x0 := cell_up b0 x0
          replace x1 := cell_up b0 x1
          replace x2 := cell_up b0 x2
          replace x3 := cell_up b0 x3
          replace x4 := cell_up b0 x4
          replace x5 := cell_up b0 x5
          replace x6 := cell_up b0 x6
          replace x7 := cell_up b0 x7
          replace x8 := cell_up b0 x8
          replace x9 := cell_up b0 x9
          obtain ⟨⟨_, _, kN⟩, bN, _⟩ := threeb w (wcells lo up false) (vcells v A6 c6 A7 c7 (some ad) c8) (vcells y X6 e6 X7 e7 X8 e8) 92 55 55
          have KN := Aside0.mk kN
          have BN := Aside0.mk bN
          clear kN bN h8 hn hl HQ
          go_enter Try.func98, Try.ntmps98
          go_wp2
          (try simp only [Exit.inBlock, Exit.then]); refine bodyPost_ret (results_ct rfl _ _ _ 55 _ (0, 0) _ rfl KN.out Try.underlying55 rfl (by kernel_rfl)) rfl ?_
          exact VOut.yes BN.out rfl ((fx.below BN.out).mono (fun k hk => .inl hk))
        · rw [sealV_no (fun h => hl h.2.2)]
          have a1 : decide (v.f0 = 8) = true := decide_eq_true h8
          have a2 : (v.f0 == 8) = true := by simpa using h8
          have a3 : (v.f0 != 8) = false := by simpa using h8
          clear h8
          have b1 : decide (v.f1 = n) = true := decide_eq_true hn
          have b2 : (v.f1 == n) = true := by simpa using hn
          have b3 : (v.f1 != n) = false := by simpa using hn
          clear hn
          have d1 : decide ((v.f8.length : Int) = 1) = false := decide_eq_false (by omega)
          have d2 : ((v.f8.length : Int) == 1) = false := by simp; omega
          have d3 : ((v.f8.length : Int) != 1) = true := by simp; omega
          have d4 : decide (v.f8.length = 1) = false := decide_eq_false hl
          go_enter Try.func98, Try.ntmps98
          go_wp2
          (try simp only [Exit.inBlock, Exit.then]); refine bodyPost_ret (results_ct rfl _ _ _ 55 _ (0, 0) _ rfl kR Try.underlying55 rfl (by kernel_rfl)) rfl ?_
          exact VOut.no b0 rfl
      · rw [sealV_no (fun h => hn h.2.1)]
        have a1 : decide (v.f0 = 8) = true := decide_eq_true h8
        have a2 : (v.f0 == 8) = true := by simpa using h8
        have a3 : (v.f0 != 8) = false := by simpa using h8
        clear h8
        have b1 : decide (v.f1 = n) = false := decide_eq_false hn
        have b2 : (v.f1 == n) = false := by simpa using hn
        have b3 : (v.f1 != n) = true := by simpa using hn
        go_enter Try.func98, Try.ntmps98
        go_wp2
        (try simp only [Exit.inBlock, Exit.then]); refine bodyPost_ret (results_ct rfl _ _ _ 55 _ (0, 0) _ rfl kR Try.underlying55 rfl (by kernel_rfl)) rfl ?_
        exact VOut.no b0 rfl
    · rw [sealV_no (fun h => h8 h.1)]
      have a1 : decide (v.f0 = 8) = false := decide_eq_false h8
      have a2 : (v.f0 == 8) = false := by simpa using h8
      have a3 : (v.f0 != 8) = true := by simpa using h8
      go_enter Try.func98, Try.ntmps98
      go_wp2
      (try simp only [Exit.inBlock, Exit.then]); refine bodyPost_ret (results_ct rfl _ _ _ 55 _ (0, 0) _ rfl kR Try.underlying55 rfl (by kernel_rfl)) rfl ?_
      exact VOut.no b0 rfl
end Go.Proofs.Ytnfnhjhnfdkinaa.PConvBack

/-
  ConvKeeps: texts of this claim, put together by a program of this session. No conditions beyond what each lemma says.
-/
import Derived.Test.YtnfnhjhnfdkinaazConvKeeps26
namespace Go.Proofs.Ytnfnhjhnfdkinaa.PConvBack
open Go.RowKit Go.Proofs.YtnfnhjhnfdkinaaW.Mine Go.Proofs.YtnfnhjhnfdkinaaW.PrintWords Go.Proofs.YtnfnhjhnfdkinaaW.PrintLast Go.Proofs.YtnfnhjhnfdkinaaW.PrintMore
attribute [local go_sem] max2_int min2_int max_two min_two max_three min_three max_four min_four
set_option linter.unusedVariables false
set_option linter.unusedSimpArgs false
/-- Lists as long as there may be, at each place of a value. -/
inductive Okv : Vl → Prop
  | mk (x : Vl) (h6 : x.f6.length * 80 ≤ 140737488351232) (ht : ∀ y, y ∈ x.f6 → Okt y) (h7 : x.f7.length ≤ 140737488351232) (h8 : x.f8.length * 144 ≤ 140737488351232) (hs : ∀ y, y ∈ x.f8 → Okv y) : Okv x
theorem Okv.parts {x : Vl} (h : Okv x) : x.f6.length * 80 ≤ 140737488351232 ∧ (∀ y, y ∈ x.f6 → Okt y) ∧ x.f7.length ≤ 140737488351232 ∧ x.f8.length * 144 ≤ 140737488351232 ∧ (∀ y, y ∈ x.f8 → Okv y) := by
  cases h with
  | mk _ a b c d e => exact ⟨a, b, c, d, e⟩
def partV (f : Vl → Ty → Option Vl) (v : Vl) (p : Ty) (s : ByteArray) : Option Vl := match fieldV v s with
  | none => none
  | some x => match fieldT p s with
    | none => none
    | some t => f x t
def partsV (f : Vl → Ty → Option Vl) (v : Vl) (p : Ty) : List ByteArray → Option (List Vl)
  | [] => some []
  | s :: l => match partV f v p s with
    | none => none
    | some k => match partsV f v p l with
      | none => none
      | some ks => some (k :: ks)
def recordV (f : Vl → Ty → Option Vl) (v : Vl) (p : Ty) : Option Vl := match partsV f v p p.f3 with
  | none => none
  | some ks => some ⟨4, 0, 0, false, ⟨#[]⟩, z52, [], p.f3, ks⟩
def turnV (lo up : Int) (inn : Bool) : Nat → Vl → Ty → Option Vl
  | 0, _, _ => none
  | k + 1, v, p => if hasB lo up p = true then (if p.f0 = 9 then sealV inn v p.f1 else if p.f0 = 7 then functionV lo up inn v p else if p.f0 = 8 then recordV (turnV lo up inn k) v p else none) else some v
/-- turn answers f of p and whatever value. -/
def TurnC (lo up : Int) (inn : Bool) (f : Vl → Ty → Option Vl) (p : Ty) : Prop := ∀ (v : Vl), Okv v → ∀ (ok : Nat → Prop) (A6 : Option Addr) (c6 : Nat) (A7 : Option Addr) (c7 : Nat) (A8 : Option Addr) (c8 : Nat) (A3 : Option Addr) (c3 : Nat) (A4 : Option Addr) (c4 : Nat) (w : World), (∀ k, ok k → k < w.heap.size) → FV w ok v A6 c6 A7 c7 A8 c8 → FT w ok p A3 c3 A4 c4 →
  Calls Try.prog 81 #[wy lo up inn, vv v A6 c6 A7 c7 A8 c8, tv p A3 c3 A4 c4] w (VOut w (fun k => ok k ∨ w.heap.size ≤ k) (f v p))
theorem fieldV_mem {v x : Vl} {s : ByteArray} (h : fieldV v s = some x) : x ∈ v.f8 := by
  unfold fieldV at h
  split at h
  · rename_i hc
    have hi : (pix v.f7 s).toNat < v.f8.length := by omega
    rw [List.getD_eq_getElem?_getD, List.getElem?_eq_getElem hi] at h
    injection h with h
    subst h
    exact List.getElem_mem hi
  · cases h
theorem fieldT_mem {v x : Ty} {s : ByteArray} (h : fieldT v s = some x) : x ∈ v.f4 := by
  unfold fieldT at h
  split at h
  · rename_i hc
    have hi : (pix v.f3 s).toNat < v.f4.length := by omega
    rw [List.getD_eq_getElem?_getD, List.getElem?_eq_getElem hi] at h
    injection h with h
    subst h
    exact List.getElem_mem hi
  · cases h
set_option maxHeartbeats 8000000 in
set_option maxRecDepth 100000 in
theorem part_c (lo up : Int) (inn : Bool) (f : Vl → Ty → Option Vl) (v : Vl) (p : Ty) (ov : Okv v) (op : Okt p) (hT : ∀ t, t ∈ p.f4 → TurnC lo up inn f t) (s : ByteArray) {ok : Nat → Prop} {A6 A7 A8 A3 A4 : Option Addr} {c6 c7 c8 c3 c4 gV gP gW : Nat} {w : World} (hok : ∀ k, ok k → k < w.heap.size)
    (kV : w.heap[gV]? = some (.cells (vcells v A6 c6 A7 c7 A8 c8) 55 (0, 0))) (kP : w.heap[gP]? = some (.cells (tarr p A3 c3 A4 c4) 25 (0, 0))) (kW : w.heap[gW]? = some (.cells (wcells lo up inn) 92 (0, 0)))
    (hv : FV w ok v A6 c6 A7 c7 A8 c8) (hp : FT w ok p A3 c3 A4 c4) :
    Calls Try.prog 110 #[.string s, .pointer (some ⟨gV, 0, none⟩), .pointer (some ⟨gP, 0, none⟩), .pointer (some ⟨gW, 0, none⟩)] w (VOut w (fun k => ok k ∨ w.heap.size ≤ k) (partV f v p s)) := by
  have lV := blk_lt kV
  have lP := blk_lt kP
  have lW := blk_lt kW
  have kR := blk_new w (.cells zcells 55)
  have b0 := below_alloc1 w (.cells zcells 55)
  replace kV := blk_up b0 kV
  replace kP := blk_up b0 kP
  replace kW := blk_up b0 kW
  have hv0 := hv.below b0
  have hp0 := hp.below b0
  obtain ⟨⟨v0, v1, v2, v3, v4, v5, v6, v7, v8, v9⟩, _, lv⟩ := ten kV
  have hq : partV f v p s = match fieldV v s with
    | none => none
    | some x => match fieldT p s with
      | none => none
      | some t => f x t := rfl
  generalize partV f v p s = o at hq ⊢
  have HQ := Aside0.mk hq
  have HT := Aside0.mk hT
  have l7 := ov.parts.2.2.1
  have l3 := op.l3
  have W0 : w.heap.size < (w.alloc (.cells zcells 55)).heap.size := by rw [World.size_alloc]; omega
  have hok0 : ∀ k, ok k → k < (w.alloc (.cells zcells 55)).heap.size := fun k hk => Nat.lt_trans (hok k hk) W0
  have HOK0 := Aside0.mk hok0
  have SW0 := Aside0.mk W0
  clear hq hT hok0 W0
  go_enter Try.func110, Try.ntmps110
  go_wp2_with fail
  refine (fieldV_c v s HOK0.out l7 hv0).mono ?_
  clear v0 v1 v2 v3 v4 v5 v6 v7 v8 v9 lv
  cases hx : fieldV v s with
  | none =>
    rintro e w1 ⟨hb1, rfl⟩
    have HN : Aside0 (o = none) := ⟨by rw [HQ.out, hx]⟩
    clear hx HQ
    have b1 := chain b0 hb1
    have kX := blk_new w1 (.cells (vcells zV none 0 none 0 none 0) 55)
    have bX := below_alloc1 w1 (.cells (vcells zV none 0 none 0 none 0) 55)
    have b2 := chain b1 bX
    replace kV := blk_up bX (blk_up hb1 kV)
    replace kP := blk_up bX (blk_up hb1 kP)
    replace kW := blk_up bX (blk_up hb1 kW)
    replace kR := blk_up bX (blk_up hb1 kR)
    replace hp0 := (hp0.below hb1).below bX
    have HOK1 : Aside0 (∀ k, ok k → k < (w1.alloc (.cells (vcells zV none 0 none 0 none 0) 55)).heap.size) := ⟨fun k hk => Nat.lt_of_lt_of_le (HOK0.out k hk) (Nat.le_trans hb1.size bX.size)⟩
    clear hb1 b0 b1 bX hv0
    obtain ⟨⟨p0, p1, p2, p3, p4⟩, _, lp⟩ := five kP
    go_wp2_with fail
    refine (fieldT_c p s HOK1.out l3 hp0).mono ?_
    have key : ∀ (e : Ending) (w3 : World), TOut (w1.alloc (.cells (vcells zV none 0 none 0 none 0) 55)) ok (fieldT p s) e w3 → ∃ (t : Ty) (b : Bool) (B3 : Option Addr) (d3 : Nat) (B4 : Option Addr) (d4 : Nat), e = .returned (.tuple #[tv t B3 d3 B4 d4, .bool b]) ∧ Below (w1.alloc (.cells (vcells zV none 0 none 0 none 0) 55)).heap.size (w1.alloc (.cells (vcells zV none 0 none 0 none 0) 55)) w3 := fun e w3 h => by
      cases ht : fieldT p s with
      | none => rw [ht] at h; exact ⟨z25, false, none, 0, none, 0, h.2, h.1⟩
      | some t => rw [ht] at h; obtain ⟨hb, B3, d3, B4, d4, he, _⟩ := h; exact ⟨t, true, B3, d3, B4, d4, he, hb⟩
    intro e w3 h3
    obtain ⟨t, b, B3, d3, B4, d4, rfl, hb3⟩ := key e w3 h3
    clear key h3 p0 p1 p2 p3 p4 lp
    have b3 := chain b2 hb3
    replace kX := blk_up hb3 kX
    replace kR := blk_up hb3 kR
    clear hb3 b2 kV kP kW
    have kT := blk_new w3 (.cells (tarr t B3 d3 B4 d4) 25)
    have bT := below_alloc1 w3 (.cells (tarr t B3 d3 B4 d4) 25)
    have b4 := chain b3 bT
    replace kR := blk_up bT kR
    clear b3 bT kX kT
    obtain ⟨⟨r0, r1, r2, r3, r4, r5, r6, r7, r8, r9⟩, ⟨s0, s1, s2, s3, s4, s5, s6, s7, s8, s9⟩, lr⟩ := ten kR
    go_wp2
    (try simp only [Exit.inBlock, Exit.then]); refine bodyPost_ret (results_ct rfl _ _ _ 55 _ (0, 0) _ rfl (stored10 kR _ _ _ _ _ _ _ _ _ _) Try.underlying55 rfl (by kernel_rfl)) rfl ?_
    exact VOut.no (below10 b4 (Nat.le_refl _) _ _ _ _ _ _ _ _ _ _) HN.out
  | some x =>
    rintro e w1 ⟨hb1, X6, e6, X7, e7, X8, e8, rfl, hfx⟩
    have ox := ov.parts.2.2.2.2 x (fieldV_mem hx)
    have HQ1 : Aside0 (o = match fieldT p s with
      | none => none
      | some t => f x t) := ⟨by rw [HQ.out, hx]⟩
    clear hx HQ
    have b1 := chain b0 hb1
    have kX := blk_new w1 (.cells (vcells x X6 e6 X7 e7 X8 e8) 55)
    have bX := below_alloc1 w1 (.cells (vcells x X6 e6 X7 e7 X8 e8) 55)
    have b2 := chain b1 bX
    replace kP := blk_up bX (blk_up hb1 kP)
    replace kW := blk_up bX (blk_up hb1 kW)
    replace kR := blk_up bX (blk_up hb1 kR)
    replace hp0 := (hp0.below hb1).below bX
    replace hfx := hfx.below bX
    have HOK1 : Aside0 (∀ k, ok k → k < (w1.alloc (.cells (vcells x X6 e6 X7 e7 X8 e8) 55)).heap.size) := ⟨fun k hk => Nat.lt_of_lt_of_le (HOK0.out k hk) (Nat.le_trans hb1.size bX.size)⟩
    clear hb1 b0 b1 bX hv0 kV
    obtain ⟨⟨p0, p1, p2, p3, p4⟩, _, lp⟩ := five kP
    go_wp2_with fail
    refine (fieldT_c p s HOK1.out l3 hp0).mono ?_
    clear p0 p1 p2 p3 p4 lp
    cases ht : fieldT p s with
    | none =>
      rintro e w3 ⟨hb3, rfl⟩
      have HN : Aside0 (o = none) := ⟨by rw [HQ1.out, ht]⟩
      clear ht HQ1
      have b3 := chain b2 hb3
      replace kR := blk_up hb3 kR
      have kT := blk_new w3 (.cells (tarr z25 none 0 none 0) 25)
      have bT := below_alloc1 w3 (.cells (tarr z25 none 0 none 0) 25)
      have b4 := chain b3 bT
      replace kR := blk_up bT kR
      clear b3 bT kX kT hb3 b2 kP kW
      obtain ⟨⟨r0, r1, r2, r3, r4, r5, r6, r7, r8, r9⟩, ⟨s0, s1, s2, s3, s4, s5, s6, s7, s8, s9⟩, lr⟩ := ten kR
      go_wp2
      (try simp only [Exit.inBlock, Exit.then]); refine bodyPost_ret (results_ct rfl _ _ _ 55 _ (0, 0) _ rfl (stored10 kR _ _ _ _ _ _ _ _ _ _) Try.underlying55 rfl (by kernel_rfl)) rfl ?_
      exact VOut.no (below10 b4 (Nat.le_refl _) _ _ _ _ _ _ _ _ _ _) HN.out
    | some t =>
      rintro e w3 ⟨hb3, B3, d3, B4, d4, rfl, hft⟩
      have HN : Aside0 (o = f x t) := ⟨by rw [HQ1.out, ht]⟩
      have cT := HT.out t (fieldT_mem ht)
      clear ht HQ1 HT
      have b3 := chain b2 hb3
      replace kR := blk_up hb3 kR
      replace kX := blk_up hb3 kX
      replace kW := blk_up hb3 kW
      replace hfx := hfx.below hb3
      have kT := blk_new w3 (.cells (tarr t B3 d3 B4 d4) 25)
      have bT := below_alloc1 w3 (.cells (tarr t B3 d3 B4 d4) 25)
      have b4 := chain b3 bT
      replace kR := blk_up bT kR
      replace kX := blk_up bT kX
      replace kW := blk_up bT kW
      replace hfx := hfx.below bT
      replace hft := hft.below bT
      have HOK2 : Aside0 (∀ k, ok k → k < (w3.alloc (.cells (tarr t B3 d3 B4 d4) 25)).heap.size) := ⟨fun k hk => Nat.lt_of_lt_of_le (HOK1.out k hk) (Nat.le_trans hb3.size bT.size)⟩
      have SZ4 := Aside0.mk (blk_lt kR)
      clear b3 bT hb3 b2 kP
      have CT := Aside0.mk (cT x ox ok X6 e6 X7 e7 X8 e8 B3 d3 B4 d4 _ HOK2.out hfx hft)
      clear cT
      obtain ⟨⟨x0, x1, x2, x3, x4, x5, x6, x7, x8, x9⟩, _, lx⟩ := ten kX
      obtain ⟨⟨y0, y1, y2⟩, _, ly⟩ := three kW
      obtain ⟨⟨t0, t1, t2, t3, t4⟩, _, lt⟩ := five kT
      go_wp2_with fail
      refine CT.out.mono ?_
      clear x0 x1 x2 x3 x4 x5 x6 x7 x8 x9 lx y0 y1 y2 ly t0 t1 t2 t3 t4 lt CT
      have HN' := HN.out
      clear HN
      rw [← HN']
      clear HN'
      cases o with
      | none =>
        rintro e w5 ⟨hb5, rfl⟩
        have b5 := chain b4 hb5
        replace kR := blk_up hb5 kR
        clear hb5 b4 kX kW kT
        obtain ⟨⟨r0, r1, r2, r3, r4, r5, r6, r7, r8, r9⟩, ⟨s0, s1, s2, s3, s4, s5, s6, s7, s8, s9⟩, lr⟩ := ten kR
        go_wp2
        (try simp only [Exit.inBlock, Exit.then]); refine bodyPost_ret (results_ct rfl _ _ _ 55 _ (0, 0) _ rfl (stored10 kR _ _ _ _ _ _ _ _ _ _) Try.underlying55 rfl (by kernel_rfl)) rfl ?_
        exact VOut.no (below10 b5 (Nat.le_refl _) _ _ _ _ _ _ _ _ _ _) rfl
      | some u =>
        rintro e w5 ⟨hb5, U6, g6, U7, g7, U8, g8, rfl, hu⟩
        have b5 := chain b4 hb5
        replace kR := blk_up hb5 kR
        have hlR := blk_lt kR
        clear hb5 b4 kX kW kT
        obtain ⟨⟨r0, r1, r2, r3, r4, r5, r6, r7, r8, r9⟩, ⟨s0, s1, s2, s3, s4, s5, s6, s7, s8, s9⟩, lr⟩ := ten kR
        have HU := Aside0.mk hu
        clear hu
        go_wp2
        (try simp only [Exit.inBlock, Exit.then]); refine bodyPost_ret (results_ct rfl _ _ _ 55 _ (0, 0) _ rfl (stored10 kR _ _ _ _ _ _ _ _ _ _) Try.underlying55 rfl (by kernel_rfl)) rfl ?_
        have z1 := SW0.out
        have hgt : ∀ k, (w3.alloc (.cells (tarr t B3 d3 B4 d4) 25)).heap.size ≤ k → w.heap.size < k := fun k hk => by have := SZ4.out; omega
        exact VOut.yes (below10 b5 (Nat.le_refl _) _ _ _ _ _ _ _ _ _ _) rfl ((HU.out.stored (fun k hk => by rcases hk with hk | hk; (have := hok k hk; omega); (have := hgt k hk; omega)) _ _ _ _ _ _ _ _ _ _).mono (fun k hk => by rcases hk with hk | hk; exact .inl hk; exact .inr (by have := hgt k hk; omega)))
end Go.Proofs.Ytnfnhjhnfdkinaa.PConvBack

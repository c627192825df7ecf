/-
  SitesStay: texts of this claim, put together by a program of this session. No conditions beyond what each lemma says.
-/
import Derived.Test.YtlenfmnkbepoiaazSitesStay14
import Derived.Test.YtlenfmnkbepoiaazSitesStay13
namespace Go.Proofs.Ytlenfmnkbepoiaa.PSitesTell
open Go.RowKit Go.Proofs.YtlenfmnkbepoiaaW.Mine Go.Proofs.YtlenfmnkbepoiaaW.PrintWords Go.Proofs.YtlenfmnkbepoiaaW.PrintLast Go.Proofs.YtlenfmnkbepoiaaW.PrintMore
attribute [local go_sem] max2_int min2_int max_two min_two max_three min_three max_four min_four
set_option linter.unusedVariables false
set_option linter.unusedSimpArgs false
def OvOut (Base : Nat → Prop) (J : Nat → (Nat → Prop) → World → Prop) (kn : Nat) (u : De) (O : Nat → Prop) (w : World) (e : Ending) (w' : World) : Prop :=
  ∃ (A1 : Option Addr) (c1 : Nat) (A2 : Option Addr) (c2 : Nat) (A3 : Option Addr) (c3 : Nat) (A4 : Option Addr) (c4 : Nat) (B4 : Option Addr) (d4 : Nat) (B5 : Option Addr) (d5 : Nat) (B6 : Option Addr) (d6 : Nat) (O' Pr : Nat → Prop), e = .returned (dv u A1 c1 A2 c2 A3 c3 A4 c4 B4 d4 B5 d5 B6 d6) ∧ FD w' (fun b => Base b ∨ Pr b) u A1 c1 A2 c2 A3 c3 A4 c4 B4 d4 B5 d5 B6 d6 ∧ (∀ b, Pr b → w.heap.size ≤ b ∧ b < w'.heap.size ∧ ¬ O' b) ∧ J kn O' w' ∧ (∀ b, O' b → O b ∨ w.heap.size ≤ b) ∧ Kq O w w'
theorem twoD (w : World) (a b : Array Value) (t : TypeId) : ((w.alloc (.cells a t)).alloc (.cells b t)).heap[w.heap.size]? = some (.cells a t (0, 0)) ∧ ((w.alloc (.cells a t)).alloc (.cells b t)).heap[w.heap.size + 1]? = some (.cells b t (0, 0)) ∧ Below w.heap.size w ((w.alloc (.cells a t)).alloc (.cells b t)) ∧ ((w.alloc (.cells a t)).alloc (.cells b t)).heap.size = w.heap.size + 1 + 1 := by
  have h1 := blk_new w (.cells a t)
  have h2 := blk_new (w.alloc (.cells a t)) (.cells b t)
  have s1 := World.size_alloc w (.cells a t)
  rw [s1] at h2
  refine ⟨blk_alloc h1 _, h2, ?_, by rw [World.size_alloc, s1]⟩
  exact ((Below.refl _ w).alloc (Nat.le_refl _) _).alloc (by rw [s1]; omega) _
theorem At.binds {st : List (Ty × Int)} {k : Nat} {l : List Bi} (h : At st k (l.map (fun b => (b.f1, 0)))) : ∀ j (hj : j < l.length), st[k + j]? = some (l[j].f1, 0) := fun j hj => h j _ (by rw [List.getElem?_map, List.getElem?_eq_getElem hj]; rfl)
/-- The four parts' sites. -/
theorem At.parts {st : List (Ty × Int)} {d : De} (h : At st 0 (sitesD d)) : At st 0 (d.f0.f1.map (fun b => (b.f1, 0))) ∧ At st d.f0.f1.length (d.f0.f2.map (fun b => (b.f1, 0))) ∧ st[d.f0.f1.length + d.f0.f2.length]? = some (d.f0.f3, 0) ∧ At st (d.f0.f1.length + d.f0.f2.length + 1) (sitesE 1 d.f1) := by
  have h4 := h.right
  have h3 := h.left.right
  have h2 := h.left.left.right
  have h1 := h.left.left.left
  simp only [List.length_append, List.length_map, List.length_singleton, Nat.zero_add] at h2 h3 h4
  exact ⟨h1, h2, h3 0 _ rfl, h4⟩
theorem Kq.setRow {g : Nat} (w : World) (cs : Array Value) : Kq (fun b => b = g) w (w.setRow g cs) := ⟨rfl, rfl, rfl, by simp [World.setRow], fun i _ hne => setRow_other w g i _ hne⟩
set_option maxHeartbeats 8000000 in
set_option maxRecDepth 100000 in
theorem over_c {g : FuncId} {lb : Array Value} {F : Nat → Ty → Ty} {st : List (Ty × Int)} {Base : Nat → Prop} {J : Nat → (Nat → Prop) → World → Prop} (T : TurnC g lb F st Base J) (d : De) (hst : At st 0 (sitesD d)) (hs1 : d.f0.f1.length * 96 ≤ 140737488351232) (hs2 : d.f0.f2.length * 96 ≤ 140737488351232) (hso : So d.f1)
    {A1 A2 A3 A4 B4 B5 B6 : Option Addr} {c1 c2 c3 c4 d4 d5 d6 : Nat} {O : Nat → Prop} {w : World} (hB : ∀ b, Base b → b < w.heap.size) (hf : FD w Base d A1 c1 A2 c2 A3 c3 A4 c4 B4 d4 B5 d5 B6 d6) (hJ : J 0 O w) :
    Calls Try.prog 43 #[dv d A1 c1 A2 c2 A3 c3 A4 c4 B4 d4 B5 d5 B6 d6, .func (.func g) #[] lb] w (OvOut Base J (d.f0.f1.length + d.f0.f2.length + 1 + numE d.f1) (turnD F d) O w) := by
  obtain ⟨U, hU⟩ : ∃ U, turnD F d = U := ⟨_, rfl⟩
  rw [hU]
  have HU0 := Aside0.mk hU
  clear hU
  have eg := T.enters
  have hO := T.own _ _ _ hJ
  obtain ⟨q1, q2, q3, q4⟩ := hst.parts
  obtain ⟨kD, kR, b0, z0⟩ := twoD w (dcells d A1 c1 A2 c2 A3 c3 A4 c4 B4 d4 B5 d5 B6 d6) zdcells 33
  have hB1 : ∀ b, Base b → b < ((w.alloc (.cells (dcells d A1 c1 A2 c2 A3 c3 A4 c4 B4 d4 B5 d5 B6 d6) 33)).alloc (.cells zdcells 33)).heap.size := fun b hb => by have := hB b hb; omega
  have hf1 := hf.below b0
  have hJ1 := T.keep _ _ _ _ hJ (Kq.of_below b0)
  have hc1 := binds_c T d.f0.f1 0 q1.binds hs1 hB1 hf1.1.2 hf1.1.1 hJ1
  have hq1 : Kq O w _ := Kq.of_below b0
  obtain ⟨⟨p0, p1, p2, p3, p4, p5, p6, p7, p8, p9, p10, p11, p12, p13, p14⟩, pf, lp⟩ := fifteen kD
  have HF1 := Aside0.mk hf1
  have HO0 := Aside0.mk hO
  have HB := Aside0.mk hB
  have HQ2 := Aside0.mk q2
  have HQ4 := Aside0.mk q4
  have HQ3 := Aside0.mk q3
  have HC1 := Aside0.mk hc1
  have HFW := Aside0.mk hf
  have hOo0 : ∀ b, O b → O b ∨ w.heap.size + 1 < b := fun b hb => .inl hb
  clear hf hf1 hO hB q1 q2 q3 q4 hst hJ hJ1 hc1 b0
  go_enter Try.func43, Try.ntmps43
  go_wp2_with fail
  go_call (HC1.out) as e w1 ⟨Ax1, cx1, O1, P1, he, hc1', hF1, hP1, hJ1, hO1, hq1'⟩
  subst he
  have nH : ¬ O w.heap.size := fun h => by rcases hOo0 _ h with h | h; (have := (HO0.out _ h).1; omega); omega
  have nR : ¬ O (w.heap.size + 1) := fun h => by rcases hOo0 _ h with h | h; (have := (HO0.out _ h).1; omega); omega
  have kDa := hq1'.blk kD nH
  have kRa := hq1'.blk kR nR
  have kDb : (w1.setCell ⟨w.heap.size, 1, none⟩ (.slice Ax1 d.f0.f1.length cx1)).heap[w.heap.size]? = some (.cells (#[.string d.f0.f0, .slice Ax1 d.f0.f1.length cx1, .slice A2 d.f0.f2.length c2, .int .i64 d.f0.f3.f0, .int .i64 d.f0.f3.f1, .string d.f0.f3.f2, .slice A3 d.f0.f3.f3.length c3, .slice A4 d.f0.f3.f4.length c4, .int .i64 d.f1.f0, .int .i64 d.f1.f1, .string d.f1.f2, .bool d.f1.f3, .slice B4 d.f1.f4.length d4, .slice B5 d.f1.f5.length d5, .slice B6 d.f1.f6.length d6]) 33 (0, 0)) := (blk_set kDa 1 (.slice Ax1 d.f0.f1.length cx1))
  have kRb : (w1.setCell ⟨w.heap.size, 1, none⟩ (.slice Ax1 d.f0.f1.length cx1)).heap[w.heap.size + 1]? = some (.cells zdcells 33 (0, 0)) := (blk_far kRa (p := ⟨w.heap.size, 1, none⟩) (by dsimp only; omega) (.slice Ax1 d.f0.f1.length cx1))
  have hk : Kq (fun b => b = w.heap.size) w1 (w1.setCell ⟨w.heap.size, 1, none⟩ (.slice Ax1 d.f0.f1.length cx1)) := ((Kq.refl (fun b => b = w.heap.size) w1).set (p := ⟨w.heap.size, 1, none⟩) (Or.inl (Eq.refl w.heap.size)) (.slice Ax1 d.f0.f1.length cx1))
  have hOo1 : ∀ b, O1 b → O b ∨ w.heap.size + 1 < b := fun b hb => by rcases hO1 b hb with h | h; exact hOo0 b h; exact .inr (by omega)
  have nHn : ¬ O1 w.heap.size := fun h => by rcases hOo1 _ h with h | h; (have := (HO0.out _ h).1; omega); omega
  have hJb := T.keep _ _ _ _ hJ1 (hk.mono (fun b hb h => by subst hb; rcases h with h | h; (have := HB.out _ h; omega); exact nHn h))
  have hqb : Kq O w (w1.setCell ⟨w.heap.size, 1, none⟩ (.slice Ax1 d.f0.f1.length cx1)) := (hq1.then hq1' (fun b hb h => by rcases hOo0 b h with h | h; exact h; omega)).then hk (fun b hb h => by omega)
  have zb := blk_lt kRb
  have hft := HFW.out.kq hqb (fun b hb ho => (HO0.out b ho).2 hb)
  obtain ⟨Q1, hQd⟩ : ∃ Q : Nat → Prop, Q = P1 := ⟨_, rfl⟩
  have hQ1 : ∀ b, Q1 b → w.heap.size + 1 < b ∧ b < (w1.setCell ⟨w.heap.size, 1, none⟩ (.slice Ax1 d.f0.f1.length cx1)).heap.size ∧ ¬ O1 b := fun b hb => by subst hQd; exact ⟨by have := (hP1 b hb).1; omega, Nat.lt_of_lt_of_le (hP1 b hb).2.1 hk.size, (hP1 b hb).2.2⟩
  have hPQ : ∀ b, P1 b → Q1 b := fun b hb => by subst hQd; exact hb
  have hB1' : ∀ b, (Base b ∨ Q1 b) → ¬ (b = w.heap.size) := fun b hb he => by subst he; rcases hb with h | h; (have := HB.out _ h; omega); (have := (hQ1 _ h).1; omega)
  have hG1m := Kd.F_mono hF1 (show ∀ b, (Base b ∨ P1 b) → (Base b ∨ Q1 b) from fun b hb => by rcases hb with h | h; exact .inl h; exact .inr (hPQ b h))
  have hG1n := Kd.F_step hG1m (fun b hb hl => hk.block b hl (hB1' b hb))
  obtain ⟨⟨a0, a1, a2, a3, a4, a5, a6, a7, a8, a9, a10, a11, a12, a13, a14⟩, af, la⟩ := fifteen kDa
  obtain ⟨⟨b0, b1, b2, b3, b4, b5, b6, b7, b8, b9, b10, b11, b12, b13, b14⟩, bf, lb⟩ := fifteen kDb
  have HJc_ := Aside0.mk hJb
  have Hqc_ := Aside0.mk hqb
  have Hft_ := Aside0.mk hft
  have HQc_ := Aside0.mk hQ1
  have HOc_ := Aside0.mk hOo1
  have XhG1_ := Aside0.mk hG1n
  clear hJb hqb hft hQ1 hOo1 hG1n kDa kRa hk nH nR nHn hB1' hJ1 hO1 hq1' hQd hF1 hG1m hP1 hPQ hOo0 hq1 kD kR
  go_wp2_with fail
  clear a0 a1 a2 a3 a4 a5 a6 a7 a8 a9 a10 a11 a12 a13 a14 af la b0 b1 b2 b3 b4 b5 b6 b7 b8 b9 b10 b11 b12 b13 b14 bf lb
  generalize hV : World.setCell _ _ _ = V1 at kDb kRb zb HJc_ Hqc_ Hft_ HQc_ HOc_ XhG1_ ⊢
  clear hV
  have kDc := kDb
  have kRc := kRb
  have hJc := HJc_.out
  have hqc := Hqc_.out
  have hft := Hft_.out
  have hQ1 := HQc_.out
  have hOo1 := HOc_.out
  have hG1 := XhG1_.out
  have hown := T.own _ _ _ hJc
  have HW := Aside0.mk hown
  have hBV : ∀ b, Base b → b < V1.heap.size := fun b hb => by have := HB.out b hb; have := hqc.size; omega
  clear kDb kRb hown HJc_ Hqc_ Hft_ HQc_ HOc_ XhG1_
  rw [Nat.zero_add] at hJc
  have HC2 := Aside0.mk (binds_c T d.f0.f2 d.f0.f1.length HQ2.out.binds hs2 hBV hft.2.1.2 hft.2.1.1 hJc)
  clear hBV hft hJc
  go_call (HC2.out) as e w2 ⟨Ax2, cx2, O2, P2, he, hc2', hF2, hP2, hJ2, hO2, hq2'⟩
  subst he
  have nH : ¬ O1 w.heap.size := fun h => by rcases hOo1 _ h with h | h; (have := (HO0.out _ h).1; omega); omega
  have nR : ¬ O1 (w.heap.size + 1) := fun h => by rcases hOo1 _ h with h | h; (have := (HO0.out _ h).1; omega); omega
  have kDa := hq2'.blk kDc nH
  have kRa := hq2'.blk kRc nR
  have kDb : (w2.setCell ⟨w.heap.size, 2, none⟩ (.slice Ax2 d.f0.f2.length cx2)).heap[w.heap.size]? = some (.cells (#[.string d.f0.f0, .slice Ax1 d.f0.f1.length cx1, .slice Ax2 d.f0.f2.length cx2, .int .i64 d.f0.f3.f0, .int .i64 d.f0.f3.f1, .string d.f0.f3.f2, .slice A3 d.f0.f3.f3.length c3, .slice A4 d.f0.f3.f4.length c4, .int .i64 d.f1.f0, .int .i64 d.f1.f1, .string d.f1.f2, .bool d.f1.f3, .slice B4 d.f1.f4.length d4, .slice B5 d.f1.f5.length d5, .slice B6 d.f1.f6.length d6]) 33 (0, 0)) := (blk_set kDa 2 (.slice Ax2 d.f0.f2.length cx2))
  have kRb : (w2.setCell ⟨w.heap.size, 2, none⟩ (.slice Ax2 d.f0.f2.length cx2)).heap[w.heap.size + 1]? = some (.cells zdcells 33 (0, 0)) := (blk_far kRa (p := ⟨w.heap.size, 2, none⟩) (by dsimp only; omega) (.slice Ax2 d.f0.f2.length cx2))
  have hk : Kq (fun b => b = w.heap.size) w2 (w2.setCell ⟨w.heap.size, 2, none⟩ (.slice Ax2 d.f0.f2.length cx2)) := ((Kq.refl (fun b => b = w.heap.size) w2).set (p := ⟨w.heap.size, 2, none⟩) (Or.inl (Eq.refl w.heap.size)) (.slice Ax2 d.f0.f2.length cx2))
  have hOo2 : ∀ b, O2 b → O b ∨ w.heap.size + 1 < b := fun b hb => by rcases hO2 b hb with h | h; exact hOo1 b h; exact .inr (by omega)
  have nHn : ¬ O2 w.heap.size := fun h => by rcases hOo2 _ h with h | h; (have := (HO0.out _ h).1; omega); omega
  have hJb := T.keep _ _ _ _ hJ2 (hk.mono (fun b hb h => by subst hb; rcases h with h | h; (have := HB.out _ h; omega); exact nHn h))
  have hqb : Kq O w (w2.setCell ⟨w.heap.size, 2, none⟩ (.slice Ax2 d.f0.f2.length cx2)) := (hqc.then hq2' (fun b hb h => by rcases hOo1 b h with h | h; exact h; omega)).then hk (fun b hb h => by omega)
  have zb := blk_lt kRb
  have hft := HFW.out.kq hqb (fun b hb ho => (HO0.out b ho).2 hb)
  obtain ⟨Q2, hQd⟩ : ∃ Q : Nat → Prop, Q = fun b => Q1 b ∨ P2 b := ⟨_, rfl⟩
  have hA' : ∀ b, (Base b ∨ Q1 b) → ¬ O1 b := fun b hb ho => by rcases hb with h | h; exact (HW.out b ho).2 h; exact (hQ1 b h).2.2 ho
  have hQ2 : ∀ b, Q2 b → w.heap.size + 1 < b ∧ b < (w2.setCell ⟨w.heap.size, 2, none⟩ (.slice Ax2 d.f0.f2.length cx2)).heap.size ∧ ¬ O2 b := fun b hb => by
    subst hQd
    have h1 := hq2'.size
    have h2 := hk.size
    rcases hb with hb | hb
    · have h := hQ1 b hb
      exact ⟨h.1, by omega, fun ho => by rcases hO2 b ho with h' | h'; exact h.2.2 h'; omega⟩
    · have h := hP2 b hb
      exact ⟨by omega, by omega, h.2.2⟩
  have hQQ : ∀ b, (Base b ∨ Q1 b) → (Base b ∨ Q2 b) := fun b hb => by subst hQd; rcases hb with h | h; exact .inl h; exact .inr (.inl h)
  have hPQ : ∀ b, P2 b → Q2 b := fun b hb => by subst hQd; exact .inr hb
  have hB1' : ∀ b, (Base b ∨ Q2 b) → ¬ (b = w.heap.size) := fun b hb he => by subst he; rcases hb with h | h; (have := HB.out _ h; omega); (have := (hQ2 _ h).1; omega)
  have hG1n := Kd.F_mono (Kd.F_step (Kd.F_step hG1 (fun b hb hl => hq2'.block b hl (hA' b hb))) (fun b hb hl => hk.block b hl (hB1' b (hQQ b hb)))) hQQ
  have hG2m := Kd.F_mono hF2 (show ∀ b, (Base b ∨ P2 b) → (Base b ∨ Q2 b) from fun b hb => by rcases hb with h | h; exact .inl h; exact .inr (hPQ b h))
  have hG2n := Kd.F_step hG2m (fun b hb hl => hk.block b hl (hB1' b hb))
  obtain ⟨⟨a0, a1, a2, a3, a4, a5, a6, a7, a8, a9, a10, a11, a12, a13, a14⟩, af, la⟩ := fifteen kDa
  obtain ⟨⟨b0, b1, b2, b3, b4, b5, b6, b7, b8, b9, b10, b11, b12, b13, b14⟩, bf, lb⟩ := fifteen kDb
  have HJc_ := Aside0.mk hJb
  have Hqc_ := Aside0.mk hqb
  have Hft_ := Aside0.mk hft
  have HQc_ := Aside0.mk hQ2
  have HOc_ := Aside0.mk hOo2
  have XhG1_ := Aside0.mk hG1n
  have XhG2_ := Aside0.mk hG2n
  clear hJb hqb hft hQ2 hOo2 hG1n hG2n kDa kRa hk nH nR nHn hB1' hJ2 hO2 hq2' hQd hF2 hG2m hP2 hPQ hA' hQQ hQ1 hOo1 kDc kRc hqc HW hG1
  go_wp2_with fail
  clear a0 a1 a2 a3 a4 a5 a6 a7 a8 a9 a10 a11 a12 a13 a14 af la b0 b1 b2 b3 b4 b5 b6 b7 b8 b9 b10 b11 b12 b13 b14 bf lb
  generalize hV : World.setCell _ _ _ = V2 at kDb kRb zb HJc_ Hqc_ Hft_ HQc_ HOc_ XhG1_ XhG2_ ⊢
  clear hV
  have kDc := kDb
  have kRc := kRb
  have hJc := HJc_.out
  have hqc := Hqc_.out
  have hft := Hft_.out
  have hQ2 := HQc_.out
  have hOo2 := HOc_.out
  have hG1 := XhG1_.out
  have hG2 := XhG2_.out
  have hown := T.own _ _ _ hJc
  have HW := Aside0.mk hown
  have hBV : ∀ b, Base b → b < V2.heap.size := fun b hb => by have := HB.out b hb; have := hqc.size; omega
  clear kDb kRb hown HJc_ Hqc_ Hft_ HQc_ HOc_ XhG1_ XhG2_
  have HC3 := Aside0.mk (T.at HQ3.out hJc hft.2.2.1)
  clear hBV hft hJc
  rw [eg, Oper.upon_enter]
  refine HC3.out.mono ?_
  rintro e w3 ⟨Ax3, cx3, Ax4, cx4, O3, rfl, hF3, hJ3, hO3, hq3'⟩
  have nH : ¬ O2 w.heap.size := fun h => by rcases hOo2 _ h with h | h; (have := (HO0.out _ h).1; omega); omega
  have nR : ¬ O2 (w.heap.size + 1) := fun h => by rcases hOo2 _ h with h | h; (have := (HO0.out _ h).1; omega); omega
  have kDa := hq3'.blk kDc nH
  have kRa := hq3'.blk kRc nR
  have kDb : (((((w3.setCell ⟨w.heap.size, 3, none⟩ (.int .i64 (F (d.f0.f1.length + d.f0.f2.length) d.f0.f3).f0)).setCell ⟨w.heap.size, 4, none⟩ (.int .i64 (F (d.f0.f1.length + d.f0.f2.length) d.f0.f3).f1)).setCell ⟨w.heap.size, 5, none⟩ (.string (F (d.f0.f1.length + d.f0.f2.length) d.f0.f3).f2)).setCell ⟨w.heap.size, 6, none⟩ (.slice Ax3 (F (d.f0.f1.length + d.f0.f2.length) d.f0.f3).f3.length cx3)).setCell ⟨w.heap.size, 7, none⟩ (.slice Ax4 (F (d.f0.f1.length + d.f0.f2.length) d.f0.f3).f4.length cx4)).heap[w.heap.size]? = some (.cells (#[.string d.f0.f0, .slice Ax1 d.f0.f1.length cx1, .slice Ax2 d.f0.f2.length cx2, .int .i64 (F (d.f0.f1.length + d.f0.f2.length) d.f0.f3).f0, .int .i64 (F (d.f0.f1.length + d.f0.f2.length) d.f0.f3).f1, .string (F (d.f0.f1.length + d.f0.f2.length) d.f0.f3).f2, .slice Ax3 (F (d.f0.f1.length + d.f0.f2.length) d.f0.f3).f3.length cx3, .slice Ax4 (F (d.f0.f1.length + d.f0.f2.length) d.f0.f3).f4.length cx4, .int .i64 d.f1.f0, .int .i64 d.f1.f1, .string d.f1.f2, .bool d.f1.f3, .slice B4 d.f1.f4.length d4, .slice B5 d.f1.f5.length d5, .slice B6 d.f1.f6.length d6]) 33 (0, 0)) := (blk_set (blk_set (blk_set (blk_set (blk_set kDa 3 (.int .i64 (F (d.f0.f1.length + d.f0.f2.length) d.f0.f3).f0)) 4 (.int .i64 (F (d.f0.f1.length + d.f0.f2.length) d.f0.f3).f1)) 5 (.string (F (d.f0.f1.length + d.f0.f2.length) d.f0.f3).f2)) 6 (.slice Ax3 (F (d.f0.f1.length + d.f0.f2.length) d.f0.f3).f3.length cx3)) 7 (.slice Ax4 (F (d.f0.f1.length + d.f0.f2.length) d.f0.f3).f4.length cx4))
  have kRb : (((((w3.setCell ⟨w.heap.size, 3, none⟩ (.int .i64 (F (d.f0.f1.length + d.f0.f2.length) d.f0.f3).f0)).setCell ⟨w.heap.size, 4, none⟩ (.int .i64 (F (d.f0.f1.length + d.f0.f2.length) d.f0.f3).f1)).setCell ⟨w.heap.size, 5, none⟩ (.string (F (d.f0.f1.length + d.f0.f2.length) d.f0.f3).f2)).setCell ⟨w.heap.size, 6, none⟩ (.slice Ax3 (F (d.f0.f1.length + d.f0.f2.length) d.f0.f3).f3.length cx3)).setCell ⟨w.heap.size, 7, none⟩ (.slice Ax4 (F (d.f0.f1.length + d.f0.f2.length) d.f0.f3).f4.length cx4)).heap[w.heap.size + 1]? = some (.cells zdcells 33 (0, 0)) := (blk_far (blk_far (blk_far (blk_far (blk_far kRa (p := ⟨w.heap.size, 3, none⟩) (by dsimp only; omega) (.int .i64 (F (d.f0.f1.length + d.f0.f2.length) d.f0.f3).f0)) (p := ⟨w.heap.size, 4, none⟩) (by dsimp only; omega) (.int .i64 (F (d.f0.f1.length + d.f0.f2.length) d.f0.f3).f1)) (p := ⟨w.heap.size, 5, none⟩) (by dsimp only; omega) (.string (F (d.f0.f1.length + d.f0.f2.length) d.f0.f3).f2)) (p := ⟨w.heap.size, 6, none⟩) (by dsimp only; omega) (.slice Ax3 (F (d.f0.f1.length + d.f0.f2.length) d.f0.f3).f3.length cx3)) (p := ⟨w.heap.size, 7, none⟩) (by dsimp only; omega) (.slice Ax4 (F (d.f0.f1.length + d.f0.f2.length) d.f0.f3).f4.length cx4))
  have hk : Kq (fun b => b = w.heap.size) w3 (((((w3.setCell ⟨w.heap.size, 3, none⟩ (.int .i64 (F (d.f0.f1.length + d.f0.f2.length) d.f0.f3).f0)).setCell ⟨w.heap.size, 4, none⟩ (.int .i64 (F (d.f0.f1.length + d.f0.f2.length) d.f0.f3).f1)).setCell ⟨w.heap.size, 5, none⟩ (.string (F (d.f0.f1.length + d.f0.f2.length) d.f0.f3).f2)).setCell ⟨w.heap.size, 6, none⟩ (.slice Ax3 (F (d.f0.f1.length + d.f0.f2.length) d.f0.f3).f3.length cx3)).setCell ⟨w.heap.size, 7, none⟩ (.slice Ax4 (F (d.f0.f1.length + d.f0.f2.length) d.f0.f3).f4.length cx4)) := ((((((((((Kq.refl (fun b => b = w.heap.size) w3).set (p := ⟨w.heap.size, 3, none⟩) (Or.inl (Eq.refl w.heap.size)) (.int .i64 (F (d.f0.f1.length + d.f0.f2.length) d.f0.f3).f0))).set (p := ⟨w.heap.size, 4, none⟩) (Or.inl (Eq.refl w.heap.size)) (.int .i64 (F (d.f0.f1.length + d.f0.f2.length) d.f0.f3).f1))).set (p := ⟨w.heap.size, 5, none⟩) (Or.inl (Eq.refl w.heap.size)) (.string (F (d.f0.f1.length + d.f0.f2.length) d.f0.f3).f2))).set (p := ⟨w.heap.size, 6, none⟩) (Or.inl (Eq.refl w.heap.size)) (.slice Ax3 (F (d.f0.f1.length + d.f0.f2.length) d.f0.f3).f3.length cx3))).set (p := ⟨w.heap.size, 7, none⟩) (Or.inl (Eq.refl w.heap.size)) (.slice Ax4 (F (d.f0.f1.length + d.f0.f2.length) d.f0.f3).f4.length cx4))
  have hOo3 : ∀ b, O3 b → O b ∨ w.heap.size + 1 < b := fun b hb => by rcases hO3 b hb with h | h; exact hOo2 b h; exact .inr (by omega)
  have nHn : ¬ O3 w.heap.size := fun h => by rcases hOo3 _ h with h | h; (have := (HO0.out _ h).1; omega); omega
  have hJb := T.keep _ _ _ _ hJ3 (hk.mono (fun b hb h => by subst hb; rcases h with h | h; (have := HB.out _ h; omega); exact nHn h))
  have hqb : Kq O w (((((w3.setCell ⟨w.heap.size, 3, none⟩ (.int .i64 (F (d.f0.f1.length + d.f0.f2.length) d.f0.f3).f0)).setCell ⟨w.heap.size, 4, none⟩ (.int .i64 (F (d.f0.f1.length + d.f0.f2.length) d.f0.f3).f1)).setCell ⟨w.heap.size, 5, none⟩ (.string (F (d.f0.f1.length + d.f0.f2.length) d.f0.f3).f2)).setCell ⟨w.heap.size, 6, none⟩ (.slice Ax3 (F (d.f0.f1.length + d.f0.f2.length) d.f0.f3).f3.length cx3)).setCell ⟨w.heap.size, 7, none⟩ (.slice Ax4 (F (d.f0.f1.length + d.f0.f2.length) d.f0.f3).f4.length cx4)) := (hqc.then hq3' (fun b hb h => by rcases hOo2 b h with h | h; exact h; omega)).then hk (fun b hb h => by omega)
  have zb := blk_lt kRb
  have hft := HFW.out.kq hqb (fun b hb ho => (HO0.out b ho).2 hb)
  obtain ⟨Q3, hQd⟩ : ∃ Q : Nat → Prop, Q = Q2 := ⟨_, rfl⟩
  have hA' : ∀ b, (Base b ∨ Q2 b) → ¬ O2 b := fun b hb ho => by rcases hb with h | h; exact (HW.out b ho).2 h; exact (hQ2 b h).2.2 ho
  have hQ3 : ∀ b, Q3 b → w.heap.size + 1 < b ∧ b < (((((w3.setCell ⟨w.heap.size, 3, none⟩ (.int .i64 (F (d.f0.f1.length + d.f0.f2.length) d.f0.f3).f0)).setCell ⟨w.heap.size, 4, none⟩ (.int .i64 (F (d.f0.f1.length + d.f0.f2.length) d.f0.f3).f1)).setCell ⟨w.heap.size, 5, none⟩ (.string (F (d.f0.f1.length + d.f0.f2.length) d.f0.f3).f2)).setCell ⟨w.heap.size, 6, none⟩ (.slice Ax3 (F (d.f0.f1.length + d.f0.f2.length) d.f0.f3).f3.length cx3)).setCell ⟨w.heap.size, 7, none⟩ (.slice Ax4 (F (d.f0.f1.length + d.f0.f2.length) d.f0.f3).f4.length cx4)).heap.size ∧ ¬ O3 b := fun b hb => by
    subst hQd
    have h1 := hq3'.size
    have h2 := hk.size
    have h := hQ2 b hb
    exact ⟨h.1, by omega, fun ho => by rcases hO3 b ho with h' | h'; exact h.2.2 h'; omega⟩
  have hQQ : ∀ b, (Base b ∨ Q2 b) → (Base b ∨ Q3 b) := fun b hb => by subst hQd; rcases hb with h | h; exact .inl h; exact .inr (h)
  have hB1' : ∀ b, (Base b ∨ Q3 b) → ¬ (b = w.heap.size) := fun b hb he => by subst he; rcases hb with h | h; (have := HB.out _ h; omega); (have := (hQ3 _ h).1; omega)
  have hG1n := Kd.F_mono (Kd.F_step (Kd.F_step hG1 (fun b hb hl => hq3'.block b hl (hA' b hb))) (fun b hb hl => hk.block b hl (hB1' b (hQQ b hb)))) hQQ
  have hG2n := Kd.F_mono (Kd.F_step (Kd.F_step hG2 (fun b hb hl => hq3'.block b hl (hA' b hb))) (fun b hb hl => hk.block b hl (hB1' b (hQQ b hb)))) hQQ
  have hG3m := hF3.mono (show ∀ b, Base b → (Base b ∨ Q3 b) from fun b hb => .inl hb)
  have hG3n := hG3m.kq hk hB1'
  obtain ⟨⟨a0, a1, a2, a3, a4, a5, a6, a7, a8, a9, a10, a11, a12, a13, a14⟩, af, la⟩ := fifteen kDa
  obtain ⟨⟨b0, b1, b2, b3, b4, b5, b6, b7, b8, b9, b10, b11, b12, b13, b14⟩, bf, lb⟩ := fifteen kDb
  have HJc_ := Aside0.mk hJb
  have Hqc_ := Aside0.mk hqb
  have Hft_ := Aside0.mk hft
  have HQc_ := Aside0.mk hQ3
  have HOc_ := Aside0.mk hOo3
  have XhG1_ := Aside0.mk hG1n
  have XhG2_ := Aside0.mk hG2n
  have XhG3_ := Aside0.mk hG3n
  clear hJb hqb hft hQ3 hOo3 hG1n hG2n hG3n kDa kRa hk nH nR nHn hB1' hJ3 hO3 hq3' hQd hF3 hG3m hA' hQQ hQ2 hOo2 kDc kRc hqc HW hG1 hG2
  go_wp2_with fail
  clear a0 a1 a2 a3 a4 a5 a6 a7 a8 a9 a10 a11 a12 a13 a14 af la b0 b1 b2 b3 b4 b5 b6 b7 b8 b9 b10 b11 b12 b13 b14 bf lb
  generalize hV : World.setCell _ _ _ = V3 at kDb kRb zb HJc_ Hqc_ Hft_ HQc_ HOc_ XhG1_ XhG2_ XhG3_ ⊢
  clear hV
  have kDc := kDb
  have kRc := kRb
  have hJc := HJc_.out
  have hqc := Hqc_.out
  have hft := Hft_.out
  have hQ3 := HQc_.out
  have hOo3 := HOc_.out
  have hG1 := XhG1_.out
  have hG2 := XhG2_.out
  have hG3 := XhG3_.out
  have hown := T.own _ _ _ hJc
  have HW := Aside0.mk hown
  have hBV : ∀ b, Base b → b < V3.heap.size := fun b hb => by have := HB.out b hb; have := hqc.size; omega
  clear kDb kRb hown HJc_ Hqc_ Hft_ HQc_ HOc_ XhG1_ XhG2_ XhG3_
  have hc4 := body_c T (SizeOf.sizeOf d.f1 + 1) d.f1 (Nat.lt_succ_self _) hso (d.f0.f1.length + d.f0.f2.length + 1) 1 HQ4.out B4 d4 B5 d5 B6 d6 O3 V3 hBV hft.2.2.2 hJc
  obtain ⟨Y, hY⟩ : ∃ Y, turnE F (d.f0.f1.length + d.f0.f2.length + 1) d.f1 = Y := ⟨_, rfl⟩
  rw [hY] at hc4
  have HY := Aside0.mk hY
  have HC4 := Aside0.mk hc4
  clear hBV hft hJc hY hc4
  go_call (HC4.out) as e w4 ⟨Bx4, dx4, Bx5, dx5, Bx6, dx6, O4, P4, he, hF4, hP4, hJ4, hO4, hq4'⟩
  subst he
  have nH : ¬ O3 w.heap.size := fun h => by rcases hOo3 _ h with h | h; (have := (HO0.out _ h).1; omega); omega
  have nR : ¬ O3 (w.heap.size + 1) := fun h => by rcases hOo3 _ h with h | h; (have := (HO0.out _ h).1; omega); omega
  have kDa := hq4'.blk kDc nH
  have kRa := hq4'.blk kRc nR
  have kDb : (((((((w4.setCell ⟨w.heap.size, 8, none⟩ (.int .i64 Y.f0)).setCell ⟨w.heap.size, 9, none⟩ (.int .i64 Y.f1)).setCell ⟨w.heap.size, 10, none⟩ (.string Y.f2)).setCell ⟨w.heap.size, 11, none⟩ (.bool Y.f3)).setCell ⟨w.heap.size, 12, none⟩ (.slice Bx4 Y.f4.length dx4)).setCell ⟨w.heap.size, 13, none⟩ (.slice Bx5 Y.f5.length dx5)).setCell ⟨w.heap.size, 14, none⟩ (.slice Bx6 Y.f6.length dx6)).heap[w.heap.size]? = some (.cells (#[.string d.f0.f0, .slice Ax1 d.f0.f1.length cx1, .slice Ax2 d.f0.f2.length cx2, .int .i64 (F (d.f0.f1.length + d.f0.f2.length) d.f0.f3).f0, .int .i64 (F (d.f0.f1.length + d.f0.f2.length) d.f0.f3).f1, .string (F (d.f0.f1.length + d.f0.f2.length) d.f0.f3).f2, .slice Ax3 (F (d.f0.f1.length + d.f0.f2.length) d.f0.f3).f3.length cx3, .slice Ax4 (F (d.f0.f1.length + d.f0.f2.length) d.f0.f3).f4.length cx4, .int .i64 Y.f0, .int .i64 Y.f1, .string Y.f2, .bool Y.f3, .slice Bx4 Y.f4.length dx4, .slice Bx5 Y.f5.length dx5, .slice Bx6 Y.f6.length dx6]) 33 (0, 0)) := (blk_set (blk_set (blk_set (blk_set (blk_set (blk_set (blk_set kDa 8 (.int .i64 Y.f0)) 9 (.int .i64 Y.f1)) 10 (.string Y.f2)) 11 (.bool Y.f3)) 12 (.slice Bx4 Y.f4.length dx4)) 13 (.slice Bx5 Y.f5.length dx5)) 14 (.slice Bx6 Y.f6.length dx6))
  have kRb : (((((((w4.setCell ⟨w.heap.size, 8, none⟩ (.int .i64 Y.f0)).setCell ⟨w.heap.size, 9, none⟩ (.int .i64 Y.f1)).setCell ⟨w.heap.size, 10, none⟩ (.string Y.f2)).setCell ⟨w.heap.size, 11, none⟩ (.bool Y.f3)).setCell ⟨w.heap.size, 12, none⟩ (.slice Bx4 Y.f4.length dx4)).setCell ⟨w.heap.size, 13, none⟩ (.slice Bx5 Y.f5.length dx5)).setCell ⟨w.heap.size, 14, none⟩ (.slice Bx6 Y.f6.length dx6)).heap[w.heap.size + 1]? = some (.cells zdcells 33 (0, 0)) := (blk_far (blk_far (blk_far (blk_far (blk_far (blk_far (blk_far kRa (p := ⟨w.heap.size, 8, none⟩) (by dsimp only; omega) (.int .i64 Y.f0)) (p := ⟨w.heap.size, 9, none⟩) (by dsimp only; omega) (.int .i64 Y.f1)) (p := ⟨w.heap.size, 10, none⟩) (by dsimp only; omega) (.string Y.f2)) (p := ⟨w.heap.size, 11, none⟩) (by dsimp only; omega) (.bool Y.f3)) (p := ⟨w.heap.size, 12, none⟩) (by dsimp only; omega) (.slice Bx4 Y.f4.length dx4)) (p := ⟨w.heap.size, 13, none⟩) (by dsimp only; omega) (.slice Bx5 Y.f5.length dx5)) (p := ⟨w.heap.size, 14, none⟩) (by dsimp only; omega) (.slice Bx6 Y.f6.length dx6))
  have hk : Kq (fun b => b = w.heap.size) w4 (((((((w4.setCell ⟨w.heap.size, 8, none⟩ (.int .i64 Y.f0)).setCell ⟨w.heap.size, 9, none⟩ (.int .i64 Y.f1)).setCell ⟨w.heap.size, 10, none⟩ (.string Y.f2)).setCell ⟨w.heap.size, 11, none⟩ (.bool Y.f3)).setCell ⟨w.heap.size, 12, none⟩ (.slice Bx4 Y.f4.length dx4)).setCell ⟨w.heap.size, 13, none⟩ (.slice Bx5 Y.f5.length dx5)).setCell ⟨w.heap.size, 14, none⟩ (.slice Bx6 Y.f6.length dx6)) := ((((((((((((((Kq.refl (fun b => b = w.heap.size) w4).set (p := ⟨w.heap.size, 8, none⟩) (Or.inl (Eq.refl w.heap.size)) (.int .i64 Y.f0))).set (p := ⟨w.heap.size, 9, none⟩) (Or.inl (Eq.refl w.heap.size)) (.int .i64 Y.f1))).set (p := ⟨w.heap.size, 10, none⟩) (Or.inl (Eq.refl w.heap.size)) (.string Y.f2))).set (p := ⟨w.heap.size, 11, none⟩) (Or.inl (Eq.refl w.heap.size)) (.bool Y.f3))).set (p := ⟨w.heap.size, 12, none⟩) (Or.inl (Eq.refl w.heap.size)) (.slice Bx4 Y.f4.length dx4))).set (p := ⟨w.heap.size, 13, none⟩) (Or.inl (Eq.refl w.heap.size)) (.slice Bx5 Y.f5.length dx5))).set (p := ⟨w.heap.size, 14, none⟩) (Or.inl (Eq.refl w.heap.size)) (.slice Bx6 Y.f6.length dx6))
  have hOo4 : ∀ b, O4 b → O b ∨ w.heap.size + 1 < b := fun b hb => by rcases hO4 b hb with h | h; exact hOo3 b h; exact .inr (by omega)
  have nHn : ¬ O4 w.heap.size := fun h => by rcases hOo4 _ h with h | h; (have := (HO0.out _ h).1; omega); omega
  have hJb := T.keep _ _ _ _ hJ4 (hk.mono (fun b hb h => by subst hb; rcases h with h | h; (have := HB.out _ h; omega); exact nHn h))
  have hqb : Kq O w (((((((w4.setCell ⟨w.heap.size, 8, none⟩ (.int .i64 Y.f0)).setCell ⟨w.heap.size, 9, none⟩ (.int .i64 Y.f1)).setCell ⟨w.heap.size, 10, none⟩ (.string Y.f2)).setCell ⟨w.heap.size, 11, none⟩ (.bool Y.f3)).setCell ⟨w.heap.size, 12, none⟩ (.slice Bx4 Y.f4.length dx4)).setCell ⟨w.heap.size, 13, none⟩ (.slice Bx5 Y.f5.length dx5)).setCell ⟨w.heap.size, 14, none⟩ (.slice Bx6 Y.f6.length dx6)) := (hqc.then hq4' (fun b hb h => by rcases hOo3 b h with h | h; exact h; omega)).then hk (fun b hb h => by omega)
  have zb := blk_lt kRb
  have hft := HFW.out.kq hqb (fun b hb ho => (HO0.out b ho).2 hb)
  obtain ⟨Q4, hQd⟩ : ∃ Q : Nat → Prop, Q = fun b => Q3 b ∨ P4 b := ⟨_, rfl⟩
  have hA' : ∀ b, (Base b ∨ Q3 b) → ¬ O3 b := fun b hb ho => by rcases hb with h | h; exact (HW.out b ho).2 h; exact (hQ3 b h).2.2 ho
  have hQ4 : ∀ b, Q4 b → w.heap.size + 1 < b ∧ b < (((((((w4.setCell ⟨w.heap.size, 8, none⟩ (.int .i64 Y.f0)).setCell ⟨w.heap.size, 9, none⟩ (.int .i64 Y.f1)).setCell ⟨w.heap.size, 10, none⟩ (.string Y.f2)).setCell ⟨w.heap.size, 11, none⟩ (.bool Y.f3)).setCell ⟨w.heap.size, 12, none⟩ (.slice Bx4 Y.f4.length dx4)).setCell ⟨w.heap.size, 13, none⟩ (.slice Bx5 Y.f5.length dx5)).setCell ⟨w.heap.size, 14, none⟩ (.slice Bx6 Y.f6.length dx6)).heap.size ∧ ¬ O4 b := fun b hb => by
    subst hQd
    have h1 := hq4'.size
    have h2 := hk.size
    rcases hb with hb | hb
    · have h := hQ3 b hb
      exact ⟨h.1, by omega, fun ho => by rcases hO4 b ho with h' | h'; exact h.2.2 h'; omega⟩
    · have h := hP4 b hb
      exact ⟨by omega, by omega, h.2.2⟩
  have hQQ : ∀ b, (Base b ∨ Q3 b) → (Base b ∨ Q4 b) := fun b hb => by subst hQd; rcases hb with h | h; exact .inl h; exact .inr (.inl h)
  have hPQ : ∀ b, P4 b → Q4 b := fun b hb => by subst hQd; exact .inr hb
  have hB1' : ∀ b, (Base b ∨ Q4 b) → ¬ (b = w.heap.size) := fun b hb he => by subst he; rcases hb with h | h; (have := HB.out _ h; omega); (have := (hQ4 _ h).1; omega)
  have hG1n := Kd.F_mono (Kd.F_step (Kd.F_step hG1 (fun b hb hl => hq4'.block b hl (hA' b hb))) (fun b hb hl => hk.block b hl (hB1' b (hQQ b hb)))) hQQ
  have hG2n := Kd.F_mono (Kd.F_step (Kd.F_step hG2 (fun b hb hl => hq4'.block b hl (hA' b hb))) (fun b hb hl => hk.block b hl (hB1' b (hQQ b hb)))) hQQ
  have hG3n := ((hG3.kq hq4' hA').kq hk (fun b hb => hB1' b (hQQ b hb))).mono hQQ
  have hG4m := hF4.mono (show ∀ b, (Base b ∨ P4 b) → (Base b ∨ Q4 b) from fun b hb => by rcases hb with h | h; exact .inl h; exact .inr (hPQ b h))
  have hG4n := hG4m.kq hk hB1'
  obtain ⟨⟨a0, a1, a2, a3, a4, a5, a6, a7, a8, a9, a10, a11, a12, a13, a14⟩, af, la⟩ := fifteen kDa
  obtain ⟨⟨b0, b1, b2, b3, b4, b5, b6, b7, b8, b9, b10, b11, b12, b13, b14⟩, bf, lb⟩ := fifteen kDb
  obtain ⟨⟨r0, r1, r2, r3, r4, r5, r6, r7, r8, r9, r10, r11, r12, r13, r14⟩, rf, lr⟩ := fifteen kRb
  have HJc_ := Aside0.mk hJb
  have Hqc_ := Aside0.mk hqb
  have Hft_ := Aside0.mk hft
  have HQc_ := Aside0.mk hQ4
  have HOc_ := Aside0.mk hOo4
  have XhG1_ := Aside0.mk hG1n
  have XhG2_ := Aside0.mk hG2n
  have XhG3_ := Aside0.mk hG3n
  have XhG4_ := Aside0.mk hG4n
  clear hJb hqb hft hQ4 hOo4 hG1n hG2n hG3n hG4n kDa kRa hk nH nR nHn hB1' hJ4 hO4 hq4' hQd hF4 hG4m hP4 hPQ hA' hQQ hQ3 hOo3 kDc kRc hqc HW hG1 hG2 hG3
  dsimp only
  go_step
  go_step
  go_step
  go_step
  go_step
  go_step
  clear a0 a1 a2 a3 a4 a5 a6 a7 a8 a9 a10 a11 a12 a13 a14 b0 b1 b2 b3 b4 b5 b6 b7 b8 b9 b10 b11 b12 b13 b14 r0 r1 r2 r3 r4 r5 r6 r7 r8 r9 r10 r11 r12 r13 r14 af la bf lb rf lr
  generalize hV : World.setCell _ _ _ = V4 at kDb kRb zb HJc_ Hqc_ Hft_ HQc_ XhG1_ XhG2_ XhG3_ XhG4_ ⊢
  clear hV
  go_wp2_with (first
    | (refine wpList_load_row rfl 33 (.tmp 2) rfl w.heap.size rfl _ _ (0, 0) _ kDb Try.underlying33 rfl (by kernel_rfl) ?_)
    | (refine wpList_store_row rfl 33 (.tmp 4) (.tmp 31) rfl (w.heap.size + 1) #[.string d.f0.f0, .slice Ax1 d.f0.f1.length cx1, .slice Ax2 d.f0.f2.length cx2, .int .i64 (F (d.f0.f1.length + d.f0.f2.length) d.f0.f3).f0, .int .i64 (F (d.f0.f1.length + d.f0.f2.length) d.f0.f3).f1, .string (F (d.f0.f1.length + d.f0.f2.length) d.f0.f3).f2, .slice Ax3 (F (d.f0.f1.length + d.f0.f2.length) d.f0.f3).f3.length cx3, .slice Ax4 (F (d.f0.f1.length + d.f0.f2.length) d.f0.f3).f4.length cx4, .int .i64 Y.f0, .int .i64 Y.f1, .string Y.f2, .bool Y.f3, .slice Bx4 Y.f4.length dx4, .slice Bx5 Y.f5.length dx5, .slice Bx6 Y.f6.length dx6] rfl rfl _ _ kRb (by kernel_rfl) rfl (by simp [Value.oneCell']) ?_)
    | fail)
  (try simp only [Exit.inBlock, Exit.then])
  refine bodyPost_ret (results_cell_row rfl _ _ _ 33 _ (0, 0) _ rfl (setRow_heap V4 (w.heap.size + 1) _ _ _ _ kRb) Try.underlying33 rfl (by kernel_rfl)) rfl ?_
  have hS : Kq (fun b => b = w.heap.size + 1) V4 (V4.setRow (w.heap.size + 1) #[.string d.f0.f0, .slice Ax1 d.f0.f1.length cx1, .slice Ax2 d.f0.f2.length cx2, .int .i64 (F (d.f0.f1.length + d.f0.f2.length) d.f0.f3).f0, .int .i64 (F (d.f0.f1.length + d.f0.f2.length) d.f0.f3).f1, .string (F (d.f0.f1.length + d.f0.f2.length) d.f0.f3).f2, .slice Ax3 (F (d.f0.f1.length + d.f0.f2.length) d.f0.f3).f3.length cx3, .slice Ax4 (F (d.f0.f1.length + d.f0.f2.length) d.f0.f3).f4.length cx4, .int .i64 Y.f0, .int .i64 Y.f1, .string Y.f2, .bool Y.f3, .slice Bx4 Y.f4.length dx4, .slice Bx5 Y.f5.length dx5, .slice Bx6 Y.f6.length dx6]) := Kq.setRow _ _
  generalize hX1 : World.setRow _ _ _ = X1 at hS ⊢
  have hnR : ¬ O4 (w.heap.size + 1) := fun h => by rcases HOc_.out _ h with h | h; (have := (HO0.out _ h).1; omega); omega
  have hJ9 := T.keep _ _ _ _ HJc_.out (hS.mono (fun b hb h => by subst hb; rcases h with h | h; (have := HB.out _ h; omega); exact hnR h))
  have hq9 : Kq O w X1 := Hqc_.out.then hS (fun b hb h => by omega)
  have hBQ : ∀ b, (Base b ∨ Q4 b) → ¬ (b = w.heap.size + 1) := fun b hb he => by subst he; rcases hb with h | h; (have := HB.out _ h; omega); (have := (HQc_.out _ h).1; omega)
  have hfe := XhG4_.out.kq hS hBQ
  refine ⟨Ax1, cx1, Ax2, cx2, Ax3, cx3, Ax4, cx4, Bx4, dx4, Bx5, dx5, Bx6, dx6, O4, Q4, ?_, ?_, fun b hb => ?_, hJ9, fun b hb => ?_, hq9⟩
  · rw [← HU0.out]
    have e1 : (turnD F d).f1 = Y := HY.out
    show Ending.returned (.agg #[.string d.f0.f0, .slice Ax1 d.f0.f1.length cx1, .slice Ax2 d.f0.f2.length cx2, .int .i64 (F (d.f0.f1.length + d.f0.f2.length) d.f0.f3).f0, .int .i64 (F (d.f0.f1.length + d.f0.f2.length) d.f0.f3).f1, .string (F (d.f0.f1.length + d.f0.f2.length) d.f0.f3).f2, .slice Ax3 (F (d.f0.f1.length + d.f0.f2.length) d.f0.f3).f3.length cx3, .slice Ax4 (F (d.f0.f1.length + d.f0.f2.length) d.f0.f3).f4.length cx4, .int .i64 Y.f0, .int .i64 Y.f1, .string Y.f2, .bool Y.f3, .slice Bx4 Y.f4.length dx4, .slice Bx5 Y.f5.length dx5, .slice Bx6 Y.f6.length dx6]) = .returned (.agg #[.string d.f0.f0, .slice Ax1 (turnB F 0 d.f0.f1).length cx1, .slice Ax2 (turnB F d.f0.f1.length d.f0.f2).length cx2, .int .i64 (F (d.f0.f1.length + d.f0.f2.length) d.f0.f3).f0, .int .i64 (F (d.f0.f1.length + d.f0.f2.length) d.f0.f3).f1, .string (F (d.f0.f1.length + d.f0.f2.length) d.f0.f3).f2, .slice Ax3 (F (d.f0.f1.length + d.f0.f2.length) d.f0.f3).f3.length cx3, .slice Ax4 (F (d.f0.f1.length + d.f0.f2.length) d.f0.f3).f4.length cx4, .int .i64 (turnD F d).f1.f0, .int .i64 (turnD F d).f1.f1, .string (turnD F d).f1.f2, .bool (turnD F d).f1.f3, .slice Bx4 (turnD F d).f1.f4.length dx4, .slice Bx5 (turnD F d).f1.f5.length dx5, .slice Bx6 (turnD F d).f1.f6.length dx6])
    rw [e1, turnB_len, turnB_len]
  · rw [← HU0.out]
    have e1 : (turnD F d).f1 = Y := HY.out
    refine ⟨⟨?_, Kd.F_step XhG1_.out (fun b hb hl => hS.block b hl (hBQ b hb))⟩, ⟨?_, Kd.F_step XhG2_.out (fun b hb hl => hS.block b hl (hBQ b hb))⟩, XhG3_.out.kq hS hBQ, e1 ▸ hfe⟩
    · show (turnB F 0 d.f0.f1).length ≤ cx1
      rw [turnB_len]; exact hc1'
    · show (turnB F d.f0.f1.length d.f0.f2).length ≤ cx2
      rw [turnB_len]; exact hc2'
  · have h := HQc_.out b hb
    exact ⟨by omega, Nat.lt_of_lt_of_le h.2.1 hS.size, h.2.2⟩
  · rcases HOc_.out b hb with h | h; exact .inl h; exact .inr (by omega)
end Go.Proofs.Ytlenfmnkbepoiaa.PSitesTell
namespace Go.Proofs.Ytlenfmnkbepoiaa.PSitesTell
open Go.RowKit Go.Proofs.YtlenfmnkbepoiaaW.Mine Go.Proofs.YtlenfmnkbepoiaaW.PrintWords Go.Proofs.YtlenfmnkbepoiaaW.PrintLast Go.Proofs.YtlenfmnkbepoiaaW.PrintMore
attribute [local go_sem] max2_int min2_int max_two min_two max_three min_three max_four min_four
set_option linter.unusedVariables false
set_option linter.unusedSimpArgs false
theorem twoA (w : World) (a b : Array Value) (t u : TypeId) : ((w.alloc (.cells a t)).alloc (.cells b u)).heap[w.heap.size]? = some (.cells a t (0, 0)) ∧ ((w.alloc (.cells a t)).alloc (.cells b u)).heap[w.heap.size + 1]? = some (.cells b u (0, 0)) ∧ Below w.heap.size w ((w.alloc (.cells a t)).alloc (.cells b u)) ∧ ((w.alloc (.cells a t)).alloc (.cells b u)).heap.size = w.heap.size + 1 + 1 := by
  have h1 := blk_new w (.cells a t)
  have h2 := blk_new (w.alloc (.cells a t)) (.cells b u)
  have s1 := World.size_alloc w (.cells a t)
  rw [s1] at h2
  refine ⟨blk_alloc h1 _, h2, ?_, by rw [World.size_alloc, s1]⟩
  exact ((Below.refl _ w).alloc (Nat.le_refl _) _).alloc (by rw [s1]; omega) _
theorem wrap_succ (j : Nat) : wrap64 (wrap64 (j : Int) + 1) = wrap64 (((j + 1 : Nat) : Int)) := by
  rw [show ((j + 1 : Nat) : Int) = (j : Int) + 1 by omega]
  unfold wrap64
  omega
/-- Was there a site of this number? -/
def hitB (kk : Int) : Nat → Bool
  | 0 => false
  | j + 1 => decide (wrap64 (j : Int) = kk) || hitB kk j
def putF (kk : Int) (t : Ty) (j : Nat) (old : Ty) : Ty := if wrap64 (j : Int) = kk then t else old
def PutJ (Base : Nat → Prop) (n : Nat) (kk : Int) (t : Ty) (T3 : Option Addr) (e3 : Nat) (T4 : Option Addr) (e4 : Nat) (j : Nat) (O : Nat → Prop) (w : World) : Prop :=
  (∀ b, O b ↔ b = n + 4 ∨ b = n + 1 ∨ b = n + 5 ∨ b = n + 2) ∧ w.heap[n + 4]? = some (.cells #[.int .i64 (wrap64 (j : Int))] 3 (0, 0)) ∧ w.heap[n + 1]? = some (.cells #[.int .i64 kk] 3 (0, 0)) ∧ w.heap[n + 5]? = some (.cells #[.bool (hitB kk j)] 4 (0, 0)) ∧ w.heap[n + 2]? = some (.cells (tarr t T3 e3 T4 e4) 26 (0, 0)) ∧ FT w Base t T3 e3 T4 e4
def putLb (n : Nat) : Array Value := #[.pointer (some ⟨n + 4, 0, none⟩), .pointer (some ⟨n + 1, 0, none⟩), .pointer (some ⟨n + 5, 0, none⟩), .pointer (some ⟨n + 2, 0, none⟩)]
set_option maxHeartbeats 4000000 in
set_option maxRecDepth 100000 in
theorem put1_c {st : List (Ty × Int)} {Base : Nat → Prop} {n : Nat} (hB : ∀ b, Base b → b < n) {kk : Int} {t : Ty} {T3 : Option Addr} {e3 : Nat} {T4 : Option Addr} {e4 : Nat} :
    TurnC 47 (putLb n) (putF kk t) st Base (PutJ Base n kk t T3 e3 T4 e4) where
  enters := enters_of Try.func47 (by kernel_rfl) rfl
  own := fun j O w h b hb => by
    obtain ⟨hO, h1, h2, h3, h4, h5⟩ := h
    have := blk_lt h1; have := blk_lt h2; have := blk_lt h3; have := blk_lt h4
    refine ⟨by rcases (hO b).1 hb with h | h | h | h <;> omega, fun hbb => ?_⟩
    have := hB b hbb
    rcases (hO b).1 hb with h | h | h | h <;> omega
  keep := fun j O w w' h hq => by
    obtain ⟨hO, h1, h2, h3, h4, h5⟩ := h
    have hn : ∀ b, O b → ¬ ¬ (Base b ∨ O b) := fun b hb h => h (.inr hb)
    exact ⟨hO, hq.blk h1 (hn _ ((hO _).2 (by omega))), hq.blk h2 (hn _ ((hO _).2 (by omega))), hq.blk h3 (hn _ ((hO _).2 (by omega))), hq.blk h4 (hn _ ((hO _).2 (by omega))), h5.kq hq (fun i hi h => h (.inl hi))⟩
  call := fun j hj O w A3 c3 A4 c4 h hf => by
    obtain ⟨hO, h1, h2, h3, h4, h5⟩ := h
    obtain ⟨s, hs⟩ : ∃ s, (st[j]).1 = s := ⟨_, rfl⟩
    obtain ⟨nd, hnd⟩ : ∃ nd, (st[j]).2 = nd := ⟨_, rfl⟩
    rw [hs] at hf ⊢
    rw [hnd]
    have hI := wrap_succ j
    have hF : putF kk t j s = if wrap64 (j : Int) = kk then t else s := rfl
    have hH : hitB kk (j + 1) = (decide (wrap64 (j : Int) = kk) || hitB kk j) := rfl
    obtain ⟨I1, hI1⟩ : ∃ I1, wrap64 (((j + 1 : Nat) : Int)) = I1 := ⟨_, rfl⟩
    rw [hI1] at hI
    obtain ⟨I, hI0⟩ : ∃ I, wrap64 (j : Int) = I := ⟨_, rfl⟩
    rw [hI0] at hI hF hH h1
    have HI1 := Aside0.mk hI1
    have HI := Aside0.mk hI
    obtain ⟨kT, kR, b0, z0⟩ := twoA w (tarr s A3 c3 A4 c4) ztarr 26 26
    have k1 := blk_below h1 b0
    have k2 := blk_below h2 b0
    have k3 := blk_below h3 b0
    have k4 := blk_below h4 b0
    have l1 := blk_lt h1
    have l2 := blk_lt h2
    have l3 := blk_lt h3
    have l4 := blk_lt h4
    have HK := Aside0.mk (And.intro h1 (And.intro h2 (And.intro h3 h4)))
    have HO := Aside0.mk hO
    have HFF := Aside0.mk hF
    have HH := Aside0.mk hH
    have HB0 := Aside0.mk b0
    have HFT := Aside0.mk (And.intro hf h5)
    obtain ⟨j1, j1', j1l⟩ := one k1
    obtain ⟨j2, j2', j2l⟩ := one k2
    obtain ⟨j3, j3', j3l⟩ := one k3
    obtain ⟨⟨s0, s1, s2, s3, s4⟩, ⟨o0, o1, o2, o3, o4⟩, lo⟩ := five k4
    obtain ⟨i1, i1', i1l⟩ := one h1
    obtain ⟨i2, i2', i2l⟩ := one h2
    obtain ⟨i3, i3', i3l⟩ := one h3
    obtain ⟨⟨p0, p1, p2, p3, p4⟩, ⟨q0, q1, q2, q3, q4⟩, lp⟩ := five h4
    clear hI hI1 hF hH h1 h2 h3 h4 h5 hf hO b0 k1 k2 k3 k4 kT kR hs hnd hI0 hj z0
    show Calls Try.prog 47 #[tv s A3 c3 A4 c4, .int .i64 nd, .pointer (some ⟨n + 4, 0, none⟩), .pointer (some ⟨n + 1, 0, none⟩), .pointer (some ⟨n + 5, 0, none⟩), .pointer (some ⟨n + 2, 0, none⟩)] w _
    have hn : (n + 4 = n + 5) = False := by simp
    by_cases hc : I = kk
    · have hd : (I == kk) = true := beq_iff_eq.2 hc
      have HC := Aside0.mk hc
      clear hc
      go_enter Try.func47, Try.ntmps47
      go_wp2
      (try simp only [Exit.inBlock, Exit.then])
      obtain ⟨h1, h2, h3, h4⟩ := HK.out
      have hq : Kq O w ((w.setCell ⟨n + 4, 0, none⟩ (.int .i64 (wrap64 (I + 1)))).setCell ⟨n + 5, 0, none⟩ (.bool true)) := ((Kq.refl O w).set (p := ⟨n + 4, 0, none⟩) (.inl ((HO.out _).2 (.inl rfl))) _).set (p := ⟨n + 5, 0, none⟩) (.inl ((HO.out _).2 (.inr (.inr (.inl rfl))))) _
      have g1 := (blk_far (blk_set h1 0 (.int .i64 (wrap64 (I + 1)))) (p := ⟨n + 5, 0, none⟩) (by dsimp only; omega) (.bool true))
      have g2 := (blk_far ((blk_far (h2) (p := ⟨n + 4, 0, none⟩) (by dsimp only; omega) (.int .i64 (wrap64 (I + 1))))) (p := ⟨n + 5, 0, none⟩) (by dsimp only; omega) (.bool true))
      have g3 := blk_set (blk_far (h3) (p := ⟨n + 4, 0, none⟩) (by dsimp only; omega) (.int .i64 (wrap64 (I + 1)))) 0 (.bool true)
      have g4 := (blk_far ((blk_far (h4) (p := ⟨n + 4, 0, none⟩) (by dsimp only; omega) (.int .i64 (wrap64 (I + 1))))) (p := ⟨n + 5, 0, none⟩) (by dsimp only; omega) (.bool true))
      have hs : ((w.setCell ⟨n + 4, 0, none⟩ (.int .i64 (wrap64 (I + 1)))).setCell ⟨n + 5, 0, none⟩ (.bool true)).heap.size = w.heap.size := by simp [World.setCell]
      generalize (w.setCell ⟨n + 4, 0, none⟩ (.int .i64 (wrap64 (I + 1)))).setCell ⟨n + 5, 0, none⟩ (.bool true) = W1 at hq g1 g2 g3 g4 hs ⊢
      rw [← hs]
      obtain ⟨kT, kR, b0, z0⟩ := twoA W1 (tarr s A3 c3 A4 c4) (tarr t T3 e3 T4 e4) 26 26
      refine bodyPost_ret (results_cell_row rfl _ _ _ 26 _ (0, 0) _ rfl kR Try.underlying26 rfl (by kernel_rfl)) rfl ?_
      have hBO : ∀ b, Base b → ¬ O b := fun b hb ho => by have := hB b hb; rcases (HO.out b).1 ho with h | h | h | h <;> omega
      have hq2 : Kq O w _ := hq.trans (Kq.of_below b0)
      have ft := HFT.out.2.kq hq2 hBO
      refine ⟨T3, e3, T4, e4, O, ?_, ?_, ⟨HO.out, ?_, blk_below g2 b0, ?_, blk_below g4 b0, ft⟩, fun b hb => .inl hb, hq2⟩
      · rw [HFF.out, if_pos HC.out]
      · rw [HFF.out, if_pos HC.out]; exact ft
      · rw [HI1.out, ← HI.out]; exact blk_below g1 b0
      · rw [HH.out, decide_eq_true HC.out, Bool.true_or]; exact blk_below g3 b0
    · have hd : (I == kk) = false := by simp [hc]
      have HC := Aside0.mk hc
      clear hc
      go_enter Try.func47, Try.ntmps47
      go_wp2
      (try simp only [Exit.inBlock, Exit.then])
      obtain ⟨h1, h2, h3, h4⟩ := HK.out
      have hq : Kq O w (w.setCell ⟨n + 4, 0, none⟩ (.int .i64 (wrap64 (I + 1)))) := (Kq.refl O w).set (p := ⟨n + 4, 0, none⟩) (.inl ((HO.out _).2 (.inl rfl))) _
      have g1 := blk_set h1 0 (.int .i64 (wrap64 (I + 1)))
      have g2 := (blk_far (h2) (p := ⟨n + 4, 0, none⟩) (by dsimp only; omega) (.int .i64 (wrap64 (I + 1))))
      have g3 := (blk_far (h3) (p := ⟨n + 4, 0, none⟩) (by dsimp only; omega) (.int .i64 (wrap64 (I + 1))))
      have g4 := (blk_far (h4) (p := ⟨n + 4, 0, none⟩) (by dsimp only; omega) (.int .i64 (wrap64 (I + 1))))
      have hs : (w.setCell ⟨n + 4, 0, none⟩ (.int .i64 (wrap64 (I + 1)))).heap.size = w.heap.size := by simp [World.setCell]
      generalize w.setCell ⟨n + 4, 0, none⟩ (.int .i64 (wrap64 (I + 1))) = W1 at hq g1 g2 g3 g4 hs ⊢
      rw [← hs]
      obtain ⟨kT, kR, b0, z0⟩ := twoA W1 (tarr s A3 c3 A4 c4) (tarr s A3 c3 A4 c4) 26 26
      refine bodyPost_ret (results_cell_row rfl _ _ _ 26 _ (0, 0) _ rfl kR Try.underlying26 rfl (by kernel_rfl)) rfl ?_
      have hBO : ∀ b, Base b → ¬ O b := fun b hb ho => by have := hB b hb; rcases (HO.out b).1 ho with h | h | h | h <;> omega
      have hq2 : Kq O w _ := hq.trans (Kq.of_below b0)
      refine ⟨A3, c3, A4, c4, O, ?_, ?_, ⟨HO.out, ?_, blk_below g2 b0, ?_, blk_below g4 b0, HFT.out.2.kq hq2 hBO⟩, fun b hb => .inl hb, hq2⟩
      · rw [HFF.out, if_neg HC.out]
      · rw [HFF.out, if_neg HC.out]; exact HFT.out.1.kq hq2 hBO
      · rw [HI1.out, ← HI.out]; exact blk_below g1 b0
      · rw [HH.out, decide_eq_false HC.out, Bool.false_or]; exact blk_below g3 b0
end Go.Proofs.Ytlenfmnkbepoiaa.PSitesTell
namespace Go.Proofs.Ytlenfmnkbepoiaa.PSitesTell
open Go.RowKit Go.Proofs.YtlenfmnkbepoiaaW.Mine Go.Proofs.YtlenfmnkbepoiaaW.PrintWords Go.Proofs.YtlenfmnkbepoiaaW.PrintLast Go.Proofs.YtlenfmnkbepoiaaW.PrintMore
attribute [local go_sem] max2_int min2_int max_two min_two max_three min_three max_four min_four
set_option linter.unusedVariables false
set_option linter.unusedSimpArgs false
abbrev zT : Ty := z26
/-- The last site of a number among the first j ones: its type and its node. -/
def atS (st : List (Ty × Int)) (kk : Int) : Nat → Ty × Int
  | 0 => (zT, -1)
  | j + 1 => if wrap64 (j : Int) = kk then st.getD j (zT, 0) else atS st kk j
def idF (_ : Nat) (t : Ty) : Ty := t
def AtJ (Base : Nat → Prop) (n : Nat) (kk : Int) (st : List (Ty × Int)) (j : Nat) (O : Nat → Prop) (w : World) : Prop :=
  (∀ b, O b ↔ b = n + 4 ∨ b = n + 1 ∨ b = n + 5 ∨ b = n + 3) ∧ w.heap[n + 4]? = some (.cells #[.int .i64 (wrap64 (j : Int))] 3 (0, 0)) ∧ w.heap[n + 1]? = some (.cells #[.int .i64 kk] 3 (0, 0)) ∧ w.heap[n + 5]? = some (.cells #[.int .i64 (atS st kk j).2] 3 (0, 0)) ∧
    ∃ (T3 : Option Addr) (e3 : Nat) (T4 : Option Addr) (e4 : Nat), w.heap[n + 3]? = some (.cells (tarr (atS st kk j).1 T3 e3 T4 e4) 26 (0, 0)) ∧ FT w Base (atS st kk j).1 T3 e3 T4 e4
def atLb (n : Nat) : Array Value := #[.pointer (some ⟨n + 4, 0, none⟩), .pointer (some ⟨n + 1, 0, none⟩), .pointer (some ⟨n + 3, 0, none⟩), .pointer (some ⟨n + 5, 0, none⟩)]
set_option maxHeartbeats 4000000 in
set_option maxRecDepth 100000 in
theorem at1_c {st : List (Ty × Int)} {Base : Nat → Prop} {n : Nat} (hB : ∀ b, Base b → b < n) {kk : Int} :
    TurnC 44 (atLb n) idF st Base (AtJ Base n kk st) where
  enters := enters_of Try.func44 (by kernel_rfl) rfl
  own := fun j O w h b hb => by
    obtain ⟨hO, h1, h2, h3, T3, e3, T4, e4, h4, h5⟩ := h
    have := blk_lt h1; have := blk_lt h2; have := blk_lt h3; have := blk_lt h4
    refine ⟨by rcases (hO b).1 hb with h | h | h | h <;> omega, fun hbb => ?_⟩
    have := hB b hbb
    rcases (hO b).1 hb with h | h | h | h <;> omega
  keep := fun j O w w' h hq => by
    obtain ⟨hO, h1, h2, h3, T3, e3, T4, e4, h4, h5⟩ := h
    have hn : ∀ b, O b → ¬ ¬ (Base b ∨ O b) := fun b hb h => h (.inr hb)
    exact ⟨hO, hq.blk h1 (hn _ ((hO _).2 (by omega))), hq.blk h2 (hn _ ((hO _).2 (by omega))), hq.blk h3 (hn _ ((hO _).2 (by omega))), T3, e3, T4, e4, hq.blk h4 (hn _ ((hO _).2 (by omega))), h5.kq hq (fun i hi h => h (.inl hi))⟩
  call := fun j hj O w A3 c3 A4 c4 h hf => by
    obtain ⟨hO, h1, h2, h3, T3, e3, T4, e4, h4, h5⟩ := h
    have hg : st.getD j (zT, 0) = st[j] := by rw [List.getD_eq_getElem?_getD, List.getElem?_eq_getElem hj]; rfl
    have hA : atS st kk (j + 1) = if wrap64 (j : Int) = kk then st[j] else atS st kk j := by rw [← hg]; rfl
    obtain ⟨sn, hsn⟩ : ∃ sn, st[j] = sn := ⟨_, rfl⟩
    rw [hsn] at hA hf ⊢
    obtain ⟨t, ht⟩ : ∃ t, atS st kk j = t := ⟨_, rfl⟩
    rw [ht] at hA h3 h4 h5
    obtain ⟨s, nd⟩ := sn
    dsimp only at hf ⊢
    have hI := wrap_succ j
    obtain ⟨I1, hI1⟩ : ∃ I1, wrap64 (((j + 1 : Nat) : Int)) = I1 := ⟨_, rfl⟩
    rw [hI1] at hI
    obtain ⟨I, hI0⟩ : ∃ I, wrap64 (j : Int) = I := ⟨_, rfl⟩
    rw [hI0] at hI hA h1
    have HI1 := Aside0.mk hI1
    have HI := Aside0.mk hI
    obtain ⟨kT, kR, b0, z0⟩ := twoA w (tarr s A3 c3 A4 c4) ztarr 26 26
    have k1 := blk_below h1 b0
    have k2 := blk_below h2 b0
    have k3 := blk_below h3 b0
    have k4 := blk_below h4 b0
    have l1 := blk_lt h1
    have l2 := blk_lt h2
    have l3 := blk_lt h3
    have l4 := blk_lt h4
    have HK := Aside0.mk (And.intro h1 (And.intro h2 (And.intro h3 h4)))
    have HO := Aside0.mk hO
    have HA := Aside0.mk hA
    have HFT := Aside0.mk (And.intro hf h5)
    obtain ⟨j1, j1', j1l⟩ := one k1
    obtain ⟨j2, j2', j2l⟩ := one k2
    obtain ⟨j3, j3', j3l⟩ := one k3
    obtain ⟨⟨s0, s1, s2, s3, s4⟩, ⟨o0, o1, o2, o3, o4⟩, lo⟩ := five k4
    obtain ⟨i1, i1', i1l⟩ := one h1
    obtain ⟨i2, i2', i2l⟩ := one h2
    obtain ⟨i3, i3', i3l⟩ := one h3
    obtain ⟨⟨p0, p1, p2, p3, p4⟩, ⟨q0, q1, q2, q3, q4⟩, lp⟩ := five h4
    clear hI hI1 hA h1 h2 h3 h4 h5 hf hO b0 k1 k2 k3 k4 kT kR hI0 hj z0 hsn hg ht
    show Calls Try.prog 44 #[tv s A3 c3 A4 c4, .int .i64 nd, .pointer (some ⟨n + 4, 0, none⟩), .pointer (some ⟨n + 1, 0, none⟩), .pointer (some ⟨n + 3, 0, none⟩), .pointer (some ⟨n + 5, 0, none⟩)] w _
    by_cases hc : I = kk
    · have hd : (I == kk) = true := beq_iff_eq.2 hc
      have HC := Aside0.mk hc
      clear hc
      go_enter Try.func44, Try.ntmps44
      go_wp2
      (try simp only [Exit.inBlock, Exit.then])
      obtain ⟨h1, h2, h3, h4⟩ := HK.out
      have hq : Kq O w (((((((w.setCell ⟨n + 3, 0, none⟩ (.int .i64 s.f0)).setCell ⟨n + 3, 1, none⟩ (.int .i64 s.f1)).setCell ⟨n + 3, 2, none⟩ (.string s.f2)).setCell ⟨n + 3, 3, none⟩ (.slice A3 s.f3.length c3)).setCell ⟨n + 3, 4, none⟩ (.slice A4 s.f4.length c4)).setCell ⟨n + 5, 0, none⟩ (.int .i64 nd)).setCell ⟨n + 4, 0, none⟩ (.int .i64 (wrap64 (I + 1)))) := (((Kq.refl O w).set5 (g := n + 3) (.inl ((HO.out _).2 (.inr (.inr (.inr rfl))))) (.int .i64 s.f0) (.int .i64 s.f1) (.string s.f2) (.slice A3 s.f3.length c3) (.slice A4 s.f4.length c4)).set (p := ⟨n + 5, 0, none⟩) (.inl ((HO.out _).2 (.inr (.inr (.inl rfl))))) _).set (p := ⟨n + 4, 0, none⟩) (.inl ((HO.out _).2 (.inl rfl))) _
      have g1 := blk_set (blk_far ((blk_set5 (g := n + 3) h1 (by omega) (.int .i64 s.f0) (.int .i64 s.f1) (.string s.f2) (.slice A3 s.f3.length c3) (.slice A4 s.f4.length c4))) (p := ⟨n + 5, 0, none⟩) (by dsimp only; omega) (.int .i64 nd)) 0 (.int .i64 (wrap64 (I + 1)))
      have g2 := (blk_far ((blk_far ((blk_set5 (g := n + 3) h2 (by omega) (.int .i64 s.f0) (.int .i64 s.f1) (.string s.f2) (.slice A3 s.f3.length c3) (.slice A4 s.f4.length c4))) (p := ⟨n + 5, 0, none⟩) (by dsimp only; omega) (.int .i64 nd))) (p := ⟨n + 4, 0, none⟩) (by dsimp only; omega) (.int .i64 (wrap64 (I + 1))))
      have g3 := (blk_far (blk_set (blk_set5 (g := n + 3) h3 (by omega) (.int .i64 s.f0) (.int .i64 s.f1) (.string s.f2) (.slice A3 s.f3.length c3) (.slice A4 s.f4.length c4)) 0 (.int .i64 nd)) (p := ⟨n + 4, 0, none⟩) (by dsimp only; omega) (.int .i64 (wrap64 (I + 1))))
      have g4 := (blk_far ((blk_far (stored h4 (.int .i64 s.f0) (.int .i64 s.f1) (.string s.f2) (.slice A3 s.f3.length c3) (.slice A4 s.f4.length c4)) (p := ⟨n + 5, 0, none⟩) (by dsimp only; omega) (.int .i64 nd))) (p := ⟨n + 4, 0, none⟩) (by dsimp only; omega) (.int .i64 (wrap64 (I + 1))))
      have hs : (((((((w.setCell ⟨n + 3, 0, none⟩ (.int .i64 s.f0)).setCell ⟨n + 3, 1, none⟩ (.int .i64 s.f1)).setCell ⟨n + 3, 2, none⟩ (.string s.f2)).setCell ⟨n + 3, 3, none⟩ (.slice A3 s.f3.length c3)).setCell ⟨n + 3, 4, none⟩ (.slice A4 s.f4.length c4)).setCell ⟨n + 5, 0, none⟩ (.int .i64 nd)).setCell ⟨n + 4, 0, none⟩ (.int .i64 (wrap64 (I + 1)))).heap.size = w.heap.size := by simp only [World.size_setCell]
      generalize (((((((w.setCell ⟨n + 3, 0, none⟩ (.int .i64 s.f0)).setCell ⟨n + 3, 1, none⟩ (.int .i64 s.f1)).setCell ⟨n + 3, 2, none⟩ (.string s.f2)).setCell ⟨n + 3, 3, none⟩ (.slice A3 s.f3.length c3)).setCell ⟨n + 3, 4, none⟩ (.slice A4 s.f4.length c4)).setCell ⟨n + 5, 0, none⟩ (.int .i64 nd)).setCell ⟨n + 4, 0, none⟩ (.int .i64 (wrap64 (I + 1)))) = W1 at hq g1 g2 g3 g4 hs ⊢
      rw [← hs]
      obtain ⟨kT, kR, b0, z0⟩ := twoA W1 (tarr s A3 c3 A4 c4) (tarr s A3 c3 A4 c4) 26 26
      refine bodyPost_ret (results_cell_row rfl _ _ _ 26 _ (0, 0) _ rfl kR Try.underlying26 rfl (by kernel_rfl)) rfl ?_
      have hBO : ∀ b, Base b → ¬ O b := fun b hb ho => by have := hB b hb; rcases (HO.out b).1 ho with h | h | h | h <;> omega
      have hq2 : Kq O w _ := hq.trans (Kq.of_below b0)
      have ft := HFT.out.1.kq hq2 hBO
      refine ⟨A3, c3, A4, c4, O, rfl, ft, ⟨HO.out, ?_, blk_below g2 b0, ?_, A3, c3, A4, c4, ?_, ?_⟩, fun b hb => .inl hb, hq2⟩
      · rw [HI1.out, ← HI.out]; exact blk_below g1 b0
      · rw [HA.out, if_pos HC.out]; exact blk_below g3 b0
      · rw [HA.out, if_pos HC.out]; exact blk_below g4 b0
      · rw [HA.out, if_pos HC.out]; exact ft
    · have hd : (I == kk) = false := by simp [hc]
      have HC := Aside0.mk hc
      clear hc
      go_enter Try.func44, Try.ntmps44
      go_wp2
      (try simp only [Exit.inBlock, Exit.then])
      obtain ⟨h1, h2, h3, h4⟩ := HK.out
      have hq : Kq O w (w.setCell ⟨n + 4, 0, none⟩ (.int .i64 (wrap64 (I + 1)))) := (Kq.refl O w).set (p := ⟨n + 4, 0, none⟩) (.inl ((HO.out _).2 (.inl rfl))) _
      have g1 := blk_set h1 0 (.int .i64 (wrap64 (I + 1)))
      have g2 := (blk_far (h2) (p := ⟨n + 4, 0, none⟩) (by dsimp only; omega) (.int .i64 (wrap64 (I + 1))))
      have g3 := (blk_far (h3) (p := ⟨n + 4, 0, none⟩) (by dsimp only; omega) (.int .i64 (wrap64 (I + 1))))
      have g4 := (blk_far (h4) (p := ⟨n + 4, 0, none⟩) (by dsimp only; omega) (.int .i64 (wrap64 (I + 1))))
      have hs : (w.setCell ⟨n + 4, 0, none⟩ (.int .i64 (wrap64 (I + 1)))).heap.size = w.heap.size := by simp [World.setCell]
      generalize w.setCell ⟨n + 4, 0, none⟩ (.int .i64 (wrap64 (I + 1))) = W1 at hq g1 g2 g3 g4 hs ⊢
      rw [← hs]
      obtain ⟨kT, kR, b0, z0⟩ := twoA W1 (tarr s A3 c3 A4 c4) (tarr s A3 c3 A4 c4) 26 26
      refine bodyPost_ret (results_cell_row rfl _ _ _ 26 _ (0, 0) _ rfl kR Try.underlying26 rfl (by kernel_rfl)) rfl ?_
      have hBO : ∀ b, Base b → ¬ O b := fun b hb ho => by have := hB b hb; rcases (HO.out b).1 ho with h | h | h | h <;> omega
      have hq2 : Kq O w _ := hq.trans (Kq.of_below b0)
      refine ⟨A3, c3, A4, c4, O, rfl, HFT.out.1.kq hq2 hBO, ⟨HO.out, ?_, blk_below g2 b0, ?_, T3, e3, T4, e4, ?_, ?_⟩, fun b hb => .inl hb, hq2⟩
      · rw [HI1.out, ← HI.out]; exact blk_below g1 b0
      · rw [HA.out, if_neg HC.out]; exact blk_below g3 b0
      · rw [HA.out, if_neg HC.out]; exact blk_below g4 b0
      · rw [HA.out, if_neg HC.out]; exact HFT.out.2.kq hq2 hBO
end Go.Proofs.Ytlenfmnkbepoiaa.PSitesTell

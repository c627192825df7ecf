/-
  ConvKeeps: texts of this claim, put together by a program of this session. No conditions beyond what each lemma says.
-/
import Derived.Test.YtnfnhjhnfdkinaazConvKeeps33
namespace Go.Proofs.Ytnfnhjhnfdkinaa.PConvBack
open Go.RowKit Go.Proofs.YtnfnhjhnfdkinaaW.Mine Go.Proofs.YtnfnhjhnfdkinaaW.PrintWords Go.Proofs.YtnfnhjhnfdkinaaW.PrintLast Go.Proofs.YtnfnhjhnfdkinaaW.PrintMore
attribute [local go_sem] max2_int min2_int max_two min_two max_three min_three max_four min_four
set_option linter.unusedVariables false
set_option linter.unusedSimpArgs false
set_option maxHeartbeats 16000000 in
set_option maxRecDepth 100000 in
theorem is_1 (l : List Se) (n : Nat) (v : Vl) (t : Ty) (ol : Okl l) (ov : Okv v) (ot : Okt t) (hs : ∀ y, y ∈ v.f8 → IsC l (isB l n) y) {AL A6 A7 A8 A3 A4 : Option Addr} {cL c6 c7 c8 c3 c4 : Nat} {w : World} (hL : kSe.C w AL l.length l) (hv : RV w v A6 c6 A7 c7 A8 c8) (ht : RT w t A3 c3 A4 c4) (hk : t.f0 = 1) :
    Calls Try.prog 43 #[.slice AL l.length cL, vv v A6 c6 A7 c7 A8 c8, tv t A3 c3 A4 c4] w (BOut w (isB l (n + 1) v t)) := by
  obtain ⟨⟨kV, kT⟩, b0⟩ := twob w (vcells v A6 c6 A7 c7 A8 c8) (tarr t A3 c3 A4 c4) 55 25
  obtain ⟨⟨v0, v1, v2, v3, v4, v5, v6, v7, v8, v9⟩, _, lv⟩ := ten kV
  obtain ⟨⟨t0, t1, t2, t3, t4⟩, _, lt⟩ := five kT
  have hq := isB_1 (l := l) (n := n) (v := v) hk
  generalize isB l (n + 1) v t = o at hq ⊢
  have HQ := Aside0.mk hq
  have OL := Aside0.mk ol
  have OV := Aside0.mk ov
  have OT := Aside0.mk ot
  have HS := Aside0.mk hs
  have HL := Aside0.mk hL
  have HV := Aside0.mk hv
  have HT := Aside0.mk ht
  have B0 := Aside0.mk b0
  clear hq ol ov ot hs hL hv ht kV kT
  have e11 : decide (t.f0 = 1) = true := decide_eq_true (by first | exact hk | omega)
  have e12 : (t.f0 == 1) = true := by first | simpa using hk | (simp; omega)
  have e13 : (t.f0 != 1) = false := by first | simpa using hk | (simp; omega)
  have e21 : decide (t.f0 = 2) = false := decide_eq_false (by first | exact hk | omega)
  have e22 : (t.f0 == 2) = false := by first | simpa using hk | (simp; omega)
  have e23 : (t.f0 != 2) = true := by first | simpa using hk | (simp; omega)
  have e31 : decide (t.f0 = 3) = false := decide_eq_false (by first | exact hk | omega)
  have e32 : (t.f0 == 3) = false := by first | simpa using hk | (simp; omega)
  have e33 : (t.f0 != 3) = true := by first | simpa using hk | (simp; omega)
  have e71 : decide (t.f0 = 7) = false := decide_eq_false (by first | exact hk | omega)
  have e72 : (t.f0 == 7) = false := by first | simpa using hk | (simp; omega)
  have e73 : (t.f0 != 7) = true := by first | simpa using hk | (simp; omega)
  have e91 : decide (t.f0 = 9) = false := decide_eq_false (by first | exact hk | omega)
  have e92 : (t.f0 == 9) = false := by first | simpa using hk | (simp; omega)
  have e93 : (t.f0 != 9) = true := by first | simpa using hk | (simp; omega)
  have e81 : decide (t.f0 = 8) = false := decide_eq_false (by first | exact hk | omega)
  have e82 : (t.f0 == 8) = false := by first | simpa using hk | (simp; omega)
  have e83 : (t.f0 != 8) = true := by first | simpa using hk | (simp; omega)
  have e41 : decide (t.f0 = 4) = false := decide_eq_false (by first | exact hk | omega)
  have e42 : (t.f0 == 4) = false := by first | simpa using hk | (simp; omega)
  have e43 : (t.f0 != 4) = true := by first | simpa using hk | (simp; omega)
  have e51 : decide (t.f0 = 5) = false := decide_eq_false (by first | exact hk | omega)
  have e52 : (t.f0 == 5) = false := by first | simpa using hk | (simp; omega)
  have e53 : (t.f0 != 5) = true := by first | simpa using hk | (simp; omega)
  by_cases hz : v.f0 = 1
  · have HN : Aside0 (o = true) := ⟨by rw [HQ.out]; exact decide_eq_true hz⟩
    have z1 : decide (v.f0 = 1) = true := decide_eq_true (by first | exact hz | omega)
    have z2 : (v.f0 == 1) = true := by first | simpa using hz | (simp; omega)
    have z3 : (v.f0 != 1) = false := by first | simpa using hz | (simp; omega)
    clear hk hz b0
    go_enter Try.func43, Try.ntmps43
    go_wp2
    go_ret
    exact ⟨by rw [HN.out]; rfl, B0.out⟩
  · have HN : Aside0 (o = false) := ⟨by rw [HQ.out]; exact decide_eq_false hz⟩
    have z1 : decide (v.f0 = 1) = false := decide_eq_false (by first | exact hz | omega)
    have z2 : (v.f0 == 1) = false := by first | simpa using hz | (simp; omega)
    have z3 : (v.f0 != 1) = true := by first | simpa using hz | (simp; omega)
    clear hk hz b0
    go_enter Try.func43, Try.ntmps43
    go_wp2
    go_ret
    exact ⟨by rw [HN.out]; rfl, B0.out⟩
set_option maxHeartbeats 16000000 in
set_option maxRecDepth 100000 in
theorem is_2 (l : List Se) (n : Nat) (v : Vl) (t : Ty) (ol : Okl l) (ov : Okv v) (ot : Okt t) (hs : ∀ y, y ∈ v.f8 → IsC l (isB l n) y) {AL A6 A7 A8 A3 A4 : Option Addr} {cL c6 c7 c8 c3 c4 : Nat} {w : World} (hL : kSe.C w AL l.length l) (hv : RV w v A6 c6 A7 c7 A8 c8) (ht : RT w t A3 c3 A4 c4) (hk : t.f0 = 2) :
    Calls Try.prog 43 #[.slice AL l.length cL, vv v A6 c6 A7 c7 A8 c8, tv t A3 c3 A4 c4] w (BOut w (isB l (n + 1) v t)) := by
  obtain ⟨⟨kV, kT⟩, b0⟩ := twob w (vcells v A6 c6 A7 c7 A8 c8) (tarr t A3 c3 A4 c4) 55 25
  obtain ⟨⟨v0, v1, v2, v3, v4, v5, v6, v7, v8, v9⟩, _, lv⟩ := ten kV
  obtain ⟨⟨t0, t1, t2, t3, t4⟩, _, lt⟩ := five kT
  have hq := isB_2 (l := l) (n := n) (v := v) hk
  generalize isB l (n + 1) v t = o at hq ⊢
  have HQ := Aside0.mk hq
  have OL := Aside0.mk ol
  have OV := Aside0.mk ov
  have OT := Aside0.mk ot
  have HS := Aside0.mk hs
  have HL := Aside0.mk hL
  have HV := Aside0.mk hv
  have HT := Aside0.mk ht
  have B0 := Aside0.mk b0
  clear hq ol ov ot hs hL hv ht kV kT
  have e11 : decide (t.f0 = 1) = false := decide_eq_false (by first | exact hk | omega)
  have e12 : (t.f0 == 1) = false := by first | simpa using hk | (simp; omega)
  have e13 : (t.f0 != 1) = true := by first | simpa using hk | (simp; omega)
  have e21 : decide (t.f0 = 2) = true := decide_eq_true (by first | exact hk | omega)
  have e22 : (t.f0 == 2) = true := by first | simpa using hk | (simp; omega)
  have e23 : (t.f0 != 2) = false := by first | simpa using hk | (simp; omega)
  have e31 : decide (t.f0 = 3) = false := decide_eq_false (by first | exact hk | omega)
  have e32 : (t.f0 == 3) = false := by first | simpa using hk | (simp; omega)
  have e33 : (t.f0 != 3) = true := by first | simpa using hk | (simp; omega)
  have e71 : decide (t.f0 = 7) = false := decide_eq_false (by first | exact hk | omega)
  have e72 : (t.f0 == 7) = false := by first | simpa using hk | (simp; omega)
  have e73 : (t.f0 != 7) = true := by first | simpa using hk | (simp; omega)
  have e91 : decide (t.f0 = 9) = false := decide_eq_false (by first | exact hk | omega)
  have e92 : (t.f0 == 9) = false := by first | simpa using hk | (simp; omega)
  have e93 : (t.f0 != 9) = true := by first | simpa using hk | (simp; omega)
  have e81 : decide (t.f0 = 8) = false := decide_eq_false (by first | exact hk | omega)
  have e82 : (t.f0 == 8) = false := by first | simpa using hk | (simp; omega)
  have e83 : (t.f0 != 8) = true := by first | simpa using hk | (simp; omega)
  have e41 : decide (t.f0 = 4) = false := decide_eq_false (by first | exact hk | omega)
  have e42 : (t.f0 == 4) = false := by first | simpa using hk | (simp; omega)
  have e43 : (t.f0 != 4) = true := by first | simpa using hk | (simp; omega)
  have e51 : decide (t.f0 = 5) = false := decide_eq_false (by first | exact hk | omega)
  have e52 : (t.f0 == 5) = false := by first | simpa using hk | (simp; omega)
  have e53 : (t.f0 != 5) = true := by first | simpa using hk | (simp; omega)
  by_cases hz : v.f0 = 2
  · have HN : Aside0 (o = true) := ⟨by rw [HQ.out]; exact decide_eq_true hz⟩
    have z1 : decide (v.f0 = 2) = true := decide_eq_true (by first | exact hz | omega)
    have z2 : (v.f0 == 2) = true := by first | simpa using hz | (simp; omega)
    have z3 : (v.f0 != 2) = false := by first | simpa using hz | (simp; omega)
    clear hk hz b0
    go_enter Try.func43, Try.ntmps43
    go_wp2
    go_ret
    exact ⟨by rw [HN.out]; rfl, B0.out⟩
  · have HN : Aside0 (o = false) := ⟨by rw [HQ.out]; exact decide_eq_false hz⟩
    have z1 : decide (v.f0 = 2) = false := decide_eq_false (by first | exact hz | omega)
    have z2 : (v.f0 == 2) = false := by first | simpa using hz | (simp; omega)
    have z3 : (v.f0 != 2) = true := by first | simpa using hz | (simp; omega)
    clear hk hz b0
    go_enter Try.func43, Try.ntmps43
    go_wp2
    go_ret
    exact ⟨by rw [HN.out]; rfl, B0.out⟩
set_option maxHeartbeats 16000000 in
set_option maxRecDepth 100000 in
theorem is_3 (l : List Se) (n : Nat) (v : Vl) (t : Ty) (ol : Okl l) (ov : Okv v) (ot : Okt t) (hs : ∀ y, y ∈ v.f8 → IsC l (isB l n) y) {AL A6 A7 A8 A3 A4 : Option Addr} {cL c6 c7 c8 c3 c4 : Nat} {w : World} (hL : kSe.C w AL l.length l) (hv : RV w v A6 c6 A7 c7 A8 c8) (ht : RT w t A3 c3 A4 c4) (hk : t.f0 = 3) :
    Calls Try.prog 43 #[.slice AL l.length cL, vv v A6 c6 A7 c7 A8 c8, tv t A3 c3 A4 c4] w (BOut w (isB l (n + 1) v t)) := by
  obtain ⟨⟨kV, kT⟩, b0⟩ := twob w (vcells v A6 c6 A7 c7 A8 c8) (tarr t A3 c3 A4 c4) 55 25
  obtain ⟨⟨v0, v1, v2, v3, v4, v5, v6, v7, v8, v9⟩, _, lv⟩ := ten kV
  obtain ⟨⟨t0, t1, t2, t3, t4⟩, _, lt⟩ := five kT
  have hq := isB_3 (l := l) (n := n) (v := v) hk
  generalize isB l (n + 1) v t = o at hq ⊢
  have HQ := Aside0.mk hq
  have OL := Aside0.mk ol
  have OV := Aside0.mk ov
  have OT := Aside0.mk ot
  have HS := Aside0.mk hs
  have HL := Aside0.mk hL
  have HV := Aside0.mk hv
  have HT := Aside0.mk ht
  have B0 := Aside0.mk b0
  clear hq ol ov ot hs hL hv ht kV kT
  have e11 : decide (t.f0 = 1) = false := decide_eq_false (by first | exact hk | omega)
  have e12 : (t.f0 == 1) = false := by first | simpa using hk | (simp; omega)
  have e13 : (t.f0 != 1) = true := by first | simpa using hk | (simp; omega)
  have e21 : decide (t.f0 = 2) = false := decide_eq_false (by first | exact hk | omega)
  have e22 : (t.f0 == 2) = false := by first | simpa using hk | (simp; omega)
  have e23 : (t.f0 != 2) = true := by first | simpa using hk | (simp; omega)
  have e31 : decide (t.f0 = 3) = true := decide_eq_true (by first | exact hk | omega)
  have e32 : (t.f0 == 3) = true := by first | simpa using hk | (simp; omega)
  have e33 : (t.f0 != 3) = false := by first | simpa using hk | (simp; omega)
  have e71 : decide (t.f0 = 7) = false := decide_eq_false (by first | exact hk | omega)
  have e72 : (t.f0 == 7) = false := by first | simpa using hk | (simp; omega)
  have e73 : (t.f0 != 7) = true := by first | simpa using hk | (simp; omega)
  have e91 : decide (t.f0 = 9) = false := decide_eq_false (by first | exact hk | omega)
  have e92 : (t.f0 == 9) = false := by first | simpa using hk | (simp; omega)
  have e93 : (t.f0 != 9) = true := by first | simpa using hk | (simp; omega)
  have e81 : decide (t.f0 = 8) = false := decide_eq_false (by first | exact hk | omega)
  have e82 : (t.f0 == 8) = false := by first | simpa using hk | (simp; omega)
  have e83 : (t.f0 != 8) = true := by first | simpa using hk | (simp; omega)
  have e41 : decide (t.f0 = 4) = false := decide_eq_false (by first | exact hk | omega)
  have e42 : (t.f0 == 4) = false := by first | simpa using hk | (simp; omega)
  have e43 : (t.f0 != 4) = true := by first | simpa using hk | (simp; omega)
  have e51 : decide (t.f0 = 5) = false := decide_eq_false (by first | exact hk | omega)
  have e52 : (t.f0 == 5) = false := by first | simpa using hk | (simp; omega)
  have e53 : (t.f0 != 5) = true := by first | simpa using hk | (simp; omega)
  by_cases hz : v.f0 = 3
  · have HN : Aside0 (o = true) := ⟨by rw [HQ.out]; exact decide_eq_true hz⟩
    have z1 : decide (v.f0 = 3) = true := decide_eq_true (by first | exact hz | omega)
    have z2 : (v.f0 == 3) = true := by first | simpa using hz | (simp; omega)
    have z3 : (v.f0 != 3) = false := by first | simpa using hz | (simp; omega)
    clear hk hz b0
    go_enter Try.func43, Try.ntmps43
    go_wp2
    go_ret
    exact ⟨by rw [HN.out]; rfl, B0.out⟩
  · have HN : Aside0 (o = false) := ⟨by rw [HQ.out]; exact decide_eq_false hz⟩
    have z1 : decide (v.f0 = 3) = false := decide_eq_false (by first | exact hz | omega)
    have z2 : (v.f0 == 3) = false := by first | simpa using hz | (simp; omega)
    have z3 : (v.f0 != 3) = true := by first | simpa using hz | (simp; omega)
    clear hk hz b0
    go_enter Try.func43, Try.ntmps43
    go_wp2
    go_ret
    exact ⟨by rw [HN.out]; rfl, B0.out⟩
set_option maxHeartbeats 16000000 in
set_option maxRecDepth 100000 in
theorem is_7 (l : List Se) (n : Nat) (v : Vl) (t : Ty) (ol : Okl l) (ov : Okv v) (ot : Okt t) (hs : ∀ y, y ∈ v.f8 → IsC l (isB l n) y) {AL A6 A7 A8 A3 A4 : Option Addr} {cL c6 c7 c8 c3 c4 : Nat} {w : World} (hL : kSe.C w AL l.length l) (hv : RV w v A6 c6 A7 c7 A8 c8) (ht : RT w t A3 c3 A4 c4) (hk : t.f0 = 7) :
    Calls Try.prog 43 #[.slice AL l.length cL, vv v A6 c6 A7 c7 A8 c8, tv t A3 c3 A4 c4] w (BOut w (isB l (n + 1) v t)) := by
  obtain ⟨⟨kV, kT⟩, b0⟩ := twob w (vcells v A6 c6 A7 c7 A8 c8) (tarr t A3 c3 A4 c4) 55 25
  obtain ⟨⟨v0, v1, v2, v3, v4, v5, v6, v7, v8, v9⟩, _, lv⟩ := ten kV
  obtain ⟨⟨t0, t1, t2, t3, t4⟩, _, lt⟩ := five kT
  have hq := isB_7 (l := l) (n := n) (v := v) hk
  generalize isB l (n + 1) v t = o at hq ⊢
  have HQ := Aside0.mk hq
  have OL := Aside0.mk ol
  have OV := Aside0.mk ov
  have OT := Aside0.mk ot
  have HS := Aside0.mk hs
  have HL := Aside0.mk hL
  have HV := Aside0.mk hv
  have HT := Aside0.mk ht
  have B0 := Aside0.mk b0
  clear hq ol ov ot hs hL hv ht kV kT
  have e11 : decide (t.f0 = 1) = false := decide_eq_false (by first | exact hk | omega)
  have e12 : (t.f0 == 1) = false := by first | simpa using hk | (simp; omega)
  have e13 : (t.f0 != 1) = true := by first | simpa using hk | (simp; omega)
  have e21 : decide (t.f0 = 2) = false := decide_eq_false (by first | exact hk | omega)
  have e22 : (t.f0 == 2) = false := by first | simpa using hk | (simp; omega)
  have e23 : (t.f0 != 2) = true := by first | simpa using hk | (simp; omega)
  have e31 : decide (t.f0 = 3) = false := decide_eq_false (by first | exact hk | omega)
  have e32 : (t.f0 == 3) = false := by first | simpa using hk | (simp; omega)
  have e33 : (t.f0 != 3) = true := by first | simpa using hk | (simp; omega)
  have e71 : decide (t.f0 = 7) = true := decide_eq_true (by first | exact hk | omega)
  have e72 : (t.f0 == 7) = true := by first | simpa using hk | (simp; omega)
  have e73 : (t.f0 != 7) = false := by first | simpa using hk | (simp; omega)
  have e91 : decide (t.f0 = 9) = false := decide_eq_false (by first | exact hk | omega)
  have e92 : (t.f0 == 9) = false := by first | simpa using hk | (simp; omega)
  have e93 : (t.f0 != 9) = true := by first | simpa using hk | (simp; omega)
  have e81 : decide (t.f0 = 8) = false := decide_eq_false (by first | exact hk | omega)
  have e82 : (t.f0 == 8) = false := by first | simpa using hk | (simp; omega)
  have e83 : (t.f0 != 8) = true := by first | simpa using hk | (simp; omega)
  have e41 : decide (t.f0 = 4) = false := decide_eq_false (by first | exact hk | omega)
  have e42 : (t.f0 == 4) = false := by first | simpa using hk | (simp; omega)
  have e43 : (t.f0 != 4) = true := by first | simpa using hk | (simp; omega)
  have e51 : decide (t.f0 = 5) = false := decide_eq_false (by first | exact hk | omega)
  have e52 : (t.f0 == 5) = false := by first | simpa using hk | (simp; omega)
  have e53 : (t.f0 != 5) = true := by first | simpa using hk | (simp; omega)
  clear hk b0
  go_enter Try.func43, Try.ntmps43
  go_wp2_with fail
  refine (rfun_c v).mono ?_
  rintro e w1 ⟨rfl, hb⟩
  have B1 := Aside0.mk (chain B0.out hb)
  go_wp2
  go_ret
  exact ⟨by rw [HQ.out]; rfl, B1.out⟩
set_option maxHeartbeats 16000000 in
set_option maxRecDepth 100000 in
theorem is_no (l : List Se) (n : Nat) (v : Vl) (t : Ty) (ol : Okl l) (ov : Okv v) (ot : Okt t) (hs : ∀ y, y ∈ v.f8 → IsC l (isB l n) y) {AL A6 A7 A8 A3 A4 : Option Addr} {cL c6 c7 c8 c3 c4 : Nat} {w : World} (hL : kSe.C w AL l.length l) (hv : RV w v A6 c6 A7 c7 A8 c8) (ht : RT w t A3 c3 A4 c4) (k1 : ¬ t.f0 = 1) (k2 : ¬ t.f0 = 2) (k3 : ¬ t.f0 = 3) (k7 : ¬ t.f0 = 7) (k9 : ¬ t.f0 = 9) (k8 : ¬ t.f0 = 8) (k4 : ¬ t.f0 = 4) (k5 : ¬ t.f0 = 5) :
    Calls Try.prog 43 #[.slice AL l.length cL, vv v A6 c6 A7 c7 A8 c8, tv t A3 c3 A4 c4] w (BOut w (isB l (n + 1) v t)) := by
  obtain ⟨⟨kV, kT⟩, b0⟩ := twob w (vcells v A6 c6 A7 c7 A8 c8) (tarr t A3 c3 A4 c4) 55 25
  obtain ⟨⟨v0, v1, v2, v3, v4, v5, v6, v7, v8, v9⟩, _, lv⟩ := ten kV
  obtain ⟨⟨t0, t1, t2, t3, t4⟩, _, lt⟩ := five kT
  have hq := isB_no (l := l) (n := n) (v := v) k1 k2 k3 k7 k9 k8 k4 k5
  generalize isB l (n + 1) v t = o at hq ⊢
  have HQ := Aside0.mk hq
  have OL := Aside0.mk ol
  have OV := Aside0.mk ov
  have OT := Aside0.mk ot
  have HS := Aside0.mk hs
  have HL := Aside0.mk hL
  have HV := Aside0.mk hv
  have HT := Aside0.mk ht
  have B0 := Aside0.mk b0
  clear hq ol ov ot hs hL hv ht kV kT
  have e11 : decide (t.f0 = 1) = false := decide_eq_false (by first | exact k1 | omega)
  have e12 : (t.f0 == 1) = false := by first | simpa using k1 | (simp; omega)
  have e13 : (t.f0 != 1) = true := by first | simpa using k1 | (simp; omega)
  have e21 : decide (t.f0 = 2) = false := decide_eq_false (by first | exact k2 | omega)
  have e22 : (t.f0 == 2) = false := by first | simpa using k2 | (simp; omega)
  have e23 : (t.f0 != 2) = true := by first | simpa using k2 | (simp; omega)
  have e31 : decide (t.f0 = 3) = false := decide_eq_false (by first | exact k3 | omega)
  have e32 : (t.f0 == 3) = false := by first | simpa using k3 | (simp; omega)
  have e33 : (t.f0 != 3) = true := by first | simpa using k3 | (simp; omega)
  have e71 : decide (t.f0 = 7) = false := decide_eq_false (by first | exact k7 | omega)
  have e72 : (t.f0 == 7) = false := by first | simpa using k7 | (simp; omega)
  have e73 : (t.f0 != 7) = true := by first | simpa using k7 | (simp; omega)
  have e91 : decide (t.f0 = 9) = false := decide_eq_false (by first | exact k9 | omega)
  have e92 : (t.f0 == 9) = false := by first | simpa using k9 | (simp; omega)
  have e93 : (t.f0 != 9) = true := by first | simpa using k9 | (simp; omega)
  have e81 : decide (t.f0 = 8) = false := decide_eq_false (by first | exact k8 | omega)
  have e82 : (t.f0 == 8) = false := by first | simpa using k8 | (simp; omega)
  have e83 : (t.f0 != 8) = true := by first | simpa using k8 | (simp; omega)
  have e41 : decide (t.f0 = 4) = false := decide_eq_false (by first | exact k4 | omega)
  have e42 : (t.f0 == 4) = false := by first | simpa using k4 | (simp; omega)
  have e43 : (t.f0 != 4) = true := by first | simpa using k4 | (simp; omega)
  have e51 : decide (t.f0 = 5) = false := decide_eq_false (by first | exact k5 | omega)
  have e52 : (t.f0 == 5) = false := by first | simpa using k5 | (simp; omega)
  have e53 : (t.f0 != 5) = true := by first | simpa using k5 | (simp; omega)
  clear k1 k2 k3 k7 k9 k8 k4 k5 b0
  go_enter Try.func43, Try.ntmps43
  go_wp2
  go_ret
  exact ⟨by rw [HQ.out]; rfl, B0.out⟩
set_option maxHeartbeats 16000000 in
set_option maxRecDepth 100000 in
theorem is_9 (l : List Se) (n : Nat) (v : Vl) (t : Ty) (ol : Okl l) (ov : Okv v) (ot : Okt t) (hs : ∀ y, y ∈ v.f8 → IsC l (isB l n) y) {AL A6 A7 A8 A3 A4 : Option Addr} {cL c6 c7 c8 c3 c4 : Nat} {w : World} (hL : kSe.C w AL l.length l) (hv : RV w v A6 c6 A7 c7 A8 c8) (ht : RT w t A3 c3 A4 c4) (hk : t.f0 = 9) :
    Calls Try.prog 43 #[.slice AL l.length cL, vv v A6 c6 A7 c7 A8 c8, tv t A3 c3 A4 c4] w (BOut w (isB l (n + 1) v t)) := by
  obtain ⟨⟨kV, kT⟩, b0⟩ := twob w (vcells v A6 c6 A7 c7 A8 c8) (tarr t A3 c3 A4 c4) 55 25
  obtain ⟨⟨v0, v1, v2, v3, v4, v5, v6, v7, v8, v9⟩, _, lv⟩ := ten kV
  obtain ⟨⟨t0, t1, t2, t3, t4⟩, _, lt⟩ := five kT
  have hq := isB_9 (l := l) (n := n) (v := v) hk
  generalize isB l (n + 1) v t = o at hq ⊢
  have HQ := Aside0.mk hq
  have OL := Aside0.mk ol
  have OV := Aside0.mk ov
  have OT := Aside0.mk ot
  have HS := Aside0.mk hs
  have HL := Aside0.mk hL
  have HV := Aside0.mk hv
  have HT := Aside0.mk ht
  have B0 := Aside0.mk b0
  clear hq ol ov ot hs hL hv ht kV kT
  have e11 : decide (t.f0 = 1) = false := decide_eq_false (by first | exact hk | omega)
  have e12 : (t.f0 == 1) = false := by first | simpa using hk | (simp; omega)
  have e13 : (t.f0 != 1) = true := by first | simpa using hk | (simp; omega)
  have e21 : decide (t.f0 = 2) = false := decide_eq_false (by first | exact hk | omega)
  have e22 : (t.f0 == 2) = false := by first | simpa using hk | (simp; omega)
  have e23 : (t.f0 != 2) = true := by first | simpa using hk | (simp; omega)
  have e31 : decide (t.f0 = 3) = false := decide_eq_false (by first | exact hk | omega)
  have e32 : (t.f0 == 3) = false := by first | simpa using hk | (simp; omega)
  have e33 : (t.f0 != 3) = true := by first | simpa using hk | (simp; omega)
  have e71 : decide (t.f0 = 7) = false := decide_eq_false (by first | exact hk | omega)
  have e72 : (t.f0 == 7) = false := by first | simpa using hk | (simp; omega)
  have e73 : (t.f0 != 7) = true := by first | simpa using hk | (simp; omega)
  have e91 : decide (t.f0 = 9) = true := decide_eq_true (by first | exact hk | omega)
  have e92 : (t.f0 == 9) = true := by first | simpa using hk | (simp; omega)
  have e93 : (t.f0 != 9) = false := by first | simpa using hk | (simp; omega)
  have e81 : decide (t.f0 = 8) = false := decide_eq_false (by first | exact hk | omega)
  have e82 : (t.f0 == 8) = false := by first | simpa using hk | (simp; omega)
  have e83 : (t.f0 != 8) = true := by first | simpa using hk | (simp; omega)
  have e41 : decide (t.f0 = 4) = false := decide_eq_false (by first | exact hk | omega)
  have e42 : (t.f0 == 4) = false := by first | simpa using hk | (simp; omega)
  have e43 : (t.f0 != 4) = true := by first | simpa using hk | (simp; omega)
  have e51 : decide (t.f0 = 5) = false := decide_eq_false (by first | exact hk | omega)
  have e52 : (t.f0 == 5) = false := by first | simpa using hk | (simp; omega)
  have e53 : (t.f0 != 5) = true := by first | simpa using hk | (simp; omega)
  by_cases h8 : v.f0 = 8
  · by_cases hn : v.f1 = t.f1
    · have HN : Aside0 (o = sealB l (isB l n) v) := ⟨by rw [HQ.out, if_pos h8, if_pos hn]⟩
      have z1 : decide (v.f0 = 8) = true := decide_eq_true (by first | exact h8 | omega)
      have z2 : (v.f0 == 8) = true := by first | simpa using h8 | (simp; omega)
      have z3 : (v.f0 != 8) = false := by first | simpa using h8 | (simp; omega)
      have y1 : decide (v.f1 = t.f1) = true := decide_eq_true (by first | exact hn | omega)
      have y2 : (v.f1 == t.f1) = true := by first | simpa using hn | (simp; omega)
      have y3 : (v.f1 != t.f1) = false := by first | simpa using hn | (simp; omega)
      clear hk h8 hn
      have HC := Aside0.mk (sealed_c l (isB l n) v OL.out HS.out (cL := cL) (Kd.C_below HL.out b0) (HV.out.below b0))
      clear b0
      go_enter Try.func43, Try.ntmps43
      go_wp2_with fail
      refine HC.out.mono ?_
      rintro e w1 ⟨rfl, hb⟩
      have B1 := Aside0.mk (chain B0.out hb)
      go_wp2
      go_ret
      exact ⟨by rw [HN.out]; rfl, B1.out⟩
    · have HN : Aside0 (o = false) := ⟨by rw [HQ.out, if_pos h8, if_neg hn]⟩
      have z1 : decide (v.f0 = 8) = true := decide_eq_true (by first | exact h8 | omega)
      have z2 : (v.f0 == 8) = true := by first | simpa using h8 | (simp; omega)
      have z3 : (v.f0 != 8) = false := by first | simpa using h8 | (simp; omega)
      have y1 : decide (v.f1 = t.f1) = false := decide_eq_false (by first | exact hn | omega)
      have y2 : (v.f1 == t.f1) = false := by first | simpa using hn | (simp; omega)
      have y3 : (v.f1 != t.f1) = true := by first | simpa using hn | (simp; omega)
      clear hk h8 hn b0
      go_enter Try.func43, Try.ntmps43
      go_wp2
      go_ret
      exact ⟨by rw [HN.out]; rfl, B0.out⟩
  · have HN : Aside0 (o = false) := ⟨by rw [HQ.out, if_neg h8]⟩
    have z1 : decide (v.f0 = 8) = false := decide_eq_false (by first | exact h8 | omega)
    have z2 : (v.f0 == 8) = false := by first | simpa using h8 | (simp; omega)
    have z3 : (v.f0 != 8) = true := by first | simpa using h8 | (simp; omega)
    clear hk h8 b0
    go_enter Try.func43, Try.ntmps43
    go_wp2
    go_ret
    exact ⟨by rw [HN.out]; rfl, B0.out⟩
end Go.Proofs.Ytnfnhjhnfdkinaa.PConvBack

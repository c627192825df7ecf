/-
  ConvKeeps: texts of this claim, put together by a program of this session. No conditions beyond what each lemma says.
-/
import Derived.Test.YtnfnhjhnfdkinaazConvKeeps25
namespace Go.Proofs.Ytnfnhjhnfdkinaa.PConvBack
open Go.RowKit Go.Proofs.YtnfnhjhnfdkinaaW.Mine Go.Proofs.YtnfnhjhnfdkinaaW.PrintWords Go.Proofs.YtnfnhjhnfdkinaaW.PrintLast Go.Proofs.YtnfnhjhnfdkinaaW.PrintMore
attribute [local go_sem] max2_int min2_int max_two min_two max_three min_three max_four min_four
set_option linter.unusedVariables false
set_option linter.unusedSimpArgs false
/-- A type comes, or none. -/
def TOut (w : World) (ok : Nat → Prop) (o : Option Ty) (e : Ending) (w' : World) : Prop :=
  Below w.heap.size w w' ∧ match o with
  | none => e = .returned (.tuple #[tv z25 none 0 none 0, .bool false])
  | some u => ∃ A3 c3 A4 c4, e = .returned (.tuple #[tv u A3 c3 A4 c4, .bool true]) ∧ FT w' ok u A3 c3 A4 c4
theorem TOut.no {w w' : World} {ok : Nat → Prop} {o : Option Ty} (hb : Below w.heap.size w w') (ho : o = none) : TOut w ok o (.returned (.tuple #[tv z25 none 0 none 0, .bool false])) w' := by
  subst ho; exact ⟨hb, rfl⟩
theorem TOut.yes {w w' : World} {ok : Nat → Prop} {o : Option Ty} {u : Ty} {A3 A4 : Option Addr} {c3 c4 : Nat} (hb : Below w.heap.size w w') (ho : o = some u) (hf : FT w' ok u A3 c3 A4 c4) : TOut w ok o (.returned (.tuple #[tv u A3 c3 A4 c4, .bool true])) w' := by
  subst ho; exact ⟨hb, A3, c3, A4, c4, rfl, hf⟩
theorem index_c (l : List ByteArray) (s : ByteArray) (hl : l.length ≤ 140737488351232) {A : Option Addr} {c : Nat} {w : World} (h : Kd.string.C w A l.length l) (hc : l.length ≤ c) :
    Calls Try.prog 66 #[.slice A l.length c, .string s] w fun e w' => e = .returned (.int .i64 (pix l s)) ∧ Below w.heap.size w w' := by
  obtain ⟨k, hk⟩ := (index_told l s hl).rounds
  exact (slices_Index_string_string.calls k A c l s _ w h hc hk).mono fun e w' k => ⟨k.1, k.2.below⟩
def fieldV (v : Vl) (s : ByteArray) : Option Vl := if v.f0 = 4 ∧ 0 ≤ pix v.f7 s ∧ pix v.f7 s < (v.f8.length : Int) then some (v.f8.getD (pix v.f7 s).toNat zV) else none
theorem fieldV_no {v : Vl} {s : ByteArray} (h : ¬ (v.f0 = 4 ∧ 0 ≤ pix v.f7 s ∧ pix v.f7 s < (v.f8.length : Int))) : fieldV v s = none := if_neg h
theorem fieldV_yes {v : Vl} {s : ByteArray} {i : Nat} (h0 : v.f0 = 4) (h1 : pix v.f7 s = (i : Int)) (hi : i < v.f8.length) : fieldV v s = some v.f8[i] := by
  unfold fieldV
  rw [if_pos ⟨h0, by omega, by omega⟩, h1, Int.toNat_natCast, List.getD_eq_getElem?_getD, List.getElem?_eq_getElem hi]; rfl
set_option maxHeartbeats 4000000 in
set_option maxRecDepth 100000 in
theorem fieldV_c (v : Vl) (s : ByteArray) {ok : Nat → Prop} {A6 A7 A8 : Option Addr} {c6 c7 c8 : Nat} {w : World} (hok : ∀ k, ok k → k < w.heap.size) (hl7 : v.f7.length ≤ 140737488351232) (hv : FV w ok v A6 c6 A7 c7 A8 c8) :
    Calls Try.prog 111 #[vv v A6 c6 A7 c7 A8 c8, .string s] w (VOut w ok (fieldV v s)) := by
  have kV := blk_new w (.cells (vcells v A6 c6 A7 c7 A8 c8) 55)
  have kR := blk_new (w.alloc (.cells (vcells v A6 c6 A7 c7 A8 c8) 55)) (.cells zcells 55)
  rw [World.size_alloc] at kR
  replace kV := blk_alloc kV (.cells zcells 55)
  have b0 := chain (below_alloc1 w (.cells (vcells v A6 c6 A7 c7 A8 c8) 55)) (below_alloc1 (w.alloc (.cells (vcells v A6 c6 A7 c7 A8 c8) 55)) (.cells zcells 55))
  obtain ⟨⟨v0, v1, v2, v3, v4, v5, v6, v7, v8, v9⟩, _, lv⟩ := ten kV
  have hv0 := hv.below b0
  have HNO : Aside0 (¬ (v.f0 = 4 ∧ 0 ≤ pix v.f7 s ∧ pix v.f7 s < (v.f8.length : Int)) → fieldV v s = none) := ⟨fieldV_no⟩
  have HYES : Aside0 (∀ i : Nat, (hi : i < v.f8.length) → v.f0 = 4 → pix v.f7 s = (i : Int) → fieldV v s = some v.f8[i]) := ⟨fun i hi h0 h1 => fieldV_yes h0 h1 hi⟩
  have hge := pix_ge v.f7 s
  have hlt := pix_lt v.f7 s
  go_enter Try.func111, Try.ntmps111
  go_wp2_with fail
  refine (index_c v.f7 s hl7 (Kd.F_now hv0.2.2.2.1) hv.2.2.1).mono ?_
  rintro e w1 ⟨rfl, hb⟩
  have b1 := chain b0 hb
  replace kV := blk_up hb kV
  replace kR := blk_up hb kR
  replace hv0 := hv0.below hb
  clear v0 v1 v2 v3 v4 v5 v6 v7 v8 v9 lv
  clear hb b0
  obtain ⟨⟨v0, v1, v2, v3, v4, v5, v6, v7, v8, v9⟩, _, lv⟩ := ten kV
  obtain ⟨⟨r0, r1, r2, r3, r4, r5, r6, r7, r8, r9⟩, ⟨s0, s1, s2, s3, s4, s5, s6, s7, s8, s9⟩, lr⟩ := ten kR
  generalize pix v.f7 s = ix at *
  generalize fieldV v s = o at *
  by_cases hk : v.f0 = 4
  · by_cases h0 : ix < 0
    · have HN := Aside0.mk (HNO.out (fun h => by omega))
      have a1 : decide (v.f0 = 4) = true := decide_eq_true hk
      have a2 : (v.f0 == 4) = true := by simpa using hk
      have a3 : (v.f0 != 4) = false := by simpa using hk
      have d1 : decide (ix < 0) = true := decide_eq_true h0
      clear hk HNO HYES
      go_wp2
      (try simp only [Exit.inBlock, Exit.then]); refine bodyPost_ret (results_ct rfl _ _ _ 55 _ (0, 0) _ rfl (stored10 kR _ _ _ _ _ _ _ _ _ _) Try.underlying55 rfl (by kernel_rfl)) rfl ?_
      exact VOut.no (below10 b1 (by omega) _ _ _ _ _ _ _ _ _ _) HN.out
    have d1 : decide (ix < 0) = false := decide_eq_false h0
    obtain ⟨i, rfl⟩ : ∃ i : Nat, ix = (i : Int) := ⟨ix.toNat, by omega⟩
    by_cases hi : i < v.f8.length
    · have HN := Aside0.mk (HYES.out i hi hk rfl)
      have a1 : decide (v.f0 = 4) = true := decide_eq_true hk
      have a2 : (v.f0 == 4) = true := by simpa using hk
      have a3 : (v.f0 != 4) = false := by simpa using hk
      have d2 : decide ((v.f8.length : Int) ≤ (i : Int)) = false := decide_eq_false (by omega)
      have d3 : decide (v.f8.length ≤ i) = false := decide_eq_false (by omega)
      have i0 : (0 : Int) ≤ (i : Int) := by omega
      have i1 : (i : Int) < (v.f8.length : Int) := by omega
      obtain ⟨ad, X6, e6, X7, e7, X8, e8, hA, fx, x0, x1, x2, x3, x4, x5, x6, x7, x8, x9⟩ := velt hv0.2.2.2.2.2 i hi
      subst hA
      generalize v.f8[i] = y at *
      clear hk HNO HYES
      go_wp2
      (try simp only [Exit.inBlock, Exit.then]); refine bodyPost_ret (results_ct rfl _ _ _ 55 _ (0, 0) _ rfl (stored10 kR _ _ _ _ _ _ _ _ _ _) Try.underlying55 rfl (by kernel_rfl)) rfl ?_
      exact VOut.yes (below10 b1 (by omega) _ _ _ _ _ _ _ _ _ _) HN.out (fx.stored (fun k hk => by have := hok k hk; omega) _ _ _ _ _ _ _ _ _ _)
    · have HN := Aside0.mk (HNO.out (fun h => by omega))
      have a1 : decide (v.f0 = 4) = true := decide_eq_true hk
      have a2 : (v.f0 == 4) = true := by simpa using hk
      have a3 : (v.f0 != 4) = false := by simpa using hk
      have d2 : decide ((v.f8.length : Int) ≤ (i : Int)) = true := decide_eq_true (by omega)
      have d3 : decide (v.f8.length ≤ i) = true := decide_eq_true (by omega)
      clear hk HNO HYES
      go_wp2
      (try simp only [Exit.inBlock, Exit.then]); refine bodyPost_ret (results_ct rfl _ _ _ 55 _ (0, 0) _ rfl (stored10 kR _ _ _ _ _ _ _ _ _ _) Try.underlying55 rfl (by kernel_rfl)) rfl ?_
      exact VOut.no (below10 b1 (by omega) _ _ _ _ _ _ _ _ _ _) HN.out
  · have HN := Aside0.mk (HNO.out (fun h => hk h.1))
    have a1 : decide (v.f0 = 4) = false := decide_eq_false hk
    have a2 : (v.f0 == 4) = false := by simpa using hk
    have a3 : (v.f0 != 4) = true := by simpa using hk
    clear HNO HYES
    go_wp2
    (try simp only [Exit.inBlock, Exit.then]); refine bodyPost_ret (results_ct rfl _ _ _ 55 _ (0, 0) _ rfl (stored10 kR _ _ _ _ _ _ _ _ _ _) Try.underlying55 rfl (by kernel_rfl)) rfl ?_
    exact VOut.no (below10 b1 (by omega) _ _ _ _ _ _ _ _ _ _) HN.out
def fieldT (v : Ty) (s : ByteArray) : Option Ty := if v.f0 = 8 ∧ 0 ≤ pix v.f3 s ∧ pix v.f3 s < (v.f4.length : Int) then some (v.f4.getD (pix v.f3 s).toNat z25) else none
theorem fieldT_no {v : Ty} {s : ByteArray} (h : ¬ (v.f0 = 8 ∧ 0 ≤ pix v.f3 s ∧ pix v.f3 s < (v.f4.length : Int))) : fieldT v s = none := if_neg h
theorem fieldT_yes {v : Ty} {s : ByteArray} {i : Nat} (h0 : v.f0 = 8) (h1 : pix v.f3 s = (i : Int)) (hi : i < v.f4.length) : fieldT v s = some v.f4[i] := by
  unfold fieldT
  rw [if_pos ⟨h0, by omega, by omega⟩, h1, Int.toNat_natCast, List.getD_eq_getElem?_getD, List.getElem?_eq_getElem hi]; rfl
set_option maxHeartbeats 4000000 in
set_option maxRecDepth 100000 in
theorem fieldT_c (v : Ty) (s : ByteArray) {ok : Nat → Prop} {A3 A4 : Option Addr} {c3 c4 : Nat} {w : World} (hok : ∀ k, ok k → k < w.heap.size) (hl7 : v.f3.length ≤ 140737488351232) (hv : FT w ok v A3 c3 A4 c4) :
    Calls Try.prog 112 #[tv v A3 c3 A4 c4, .string s] w (TOut w ok (fieldT v s)) := by
  have kV := blk_new w (.cells (tarr v A3 c3 A4 c4) 25)
  have kR := blk_new (w.alloc (.cells (tarr v A3 c3 A4 c4) 25)) (.cells #[.int .i64 0, .int .i64 0, .string ⟨#[]⟩, .slice none 0 0, .slice none 0 0] 25)
  rw [World.size_alloc] at kR
  replace kV := blk_alloc kV (.cells #[.int .i64 0, .int .i64 0, .string ⟨#[]⟩, .slice none 0 0, .slice none 0 0] 25)
  have b0 := chain (below_alloc1 w (.cells (tarr v A3 c3 A4 c4) 25)) (below_alloc1 (w.alloc (.cells (tarr v A3 c3 A4 c4) 25)) (.cells #[.int .i64 0, .int .i64 0, .string ⟨#[]⟩, .slice none 0 0, .slice none 0 0] 25))
  obtain ⟨⟨v0, v1, v2, v3, v4⟩, _, lv⟩ := five kV
  have hv0 := hv.below b0
  have HNO : Aside0 (¬ (v.f0 = 8 ∧ 0 ≤ pix v.f3 s ∧ pix v.f3 s < (v.f4.length : Int)) → fieldT v s = none) := ⟨fieldT_no⟩
  have HYES : Aside0 (∀ i : Nat, (hi : i < v.f4.length) → v.f0 = 8 → pix v.f3 s = (i : Int) → fieldT v s = some v.f4[i]) := ⟨fun i hi h0 h1 => fieldT_yes h0 h1 hi⟩
  have hge := pix_ge v.f3 s
  have hlt := pix_lt v.f3 s
  go_enter Try.func112, Try.ntmps112
  go_wp2_with fail
  refine (index_c v.f3 s hl7 (Kd.F_now hv0.2.1) hv.1).mono ?_
  rintro e w1 ⟨rfl, hb⟩
  have b1 := chain b0 hb
  replace kV := blk_up hb kV
  replace kR := blk_up hb kR
  replace hv0 := hv0.below hb
  clear v0 v1 v2 v3 v4 lv
  clear hb b0
  obtain ⟨⟨v0, v1, v2, v3, v4⟩, _, lv⟩ := five kV
  obtain ⟨⟨r0, r1, r2, r3, r4⟩, ⟨s0, s1, s2, s3, s4⟩, lr⟩ := five kR
  generalize pix v.f3 s = ix at *
  generalize fieldT v s = o at *
  by_cases hk : v.f0 = 8
  · by_cases h0 : ix < 0
    · have HN := Aside0.mk (HNO.out (fun h => by omega))
      have a1 : decide (v.f0 = 8) = true := decide_eq_true hk
      have a2 : (v.f0 == 8) = true := by simpa using hk
      have a3 : (v.f0 != 8) = false := by simpa using hk
      have d1 : decide (ix < 0) = true := decide_eq_true h0
      clear hk HNO HYES
      go_wp2
      (try simp only [Exit.inBlock, Exit.then]); refine bodyPost_ret (results_ct rfl _ _ _ 25 _ (0, 0) _ rfl (stored kR _ _ _ _ _) Try.underlying25 rfl (by kernel_rfl)) rfl ?_
      exact TOut.no (below_stored b1 (by omega) _ _ _ _ _) HN.out
    have d1 : decide (ix < 0) = false := decide_eq_false h0
    obtain ⟨i, rfl⟩ : ∃ i : Nat, ix = (i : Int) := ⟨ix.toNat, by omega⟩
    by_cases hi : i < v.f4.length
    · have HN := Aside0.mk (HYES.out i hi hk rfl)
      have a1 : decide (v.f0 = 8) = true := decide_eq_true hk
      have a2 : (v.f0 == 8) = true := by simpa using hk
      have a3 : (v.f0 != 8) = false := by simpa using hk
      have d2 : decide ((v.f4.length : Int) ≤ (i : Int)) = false := decide_eq_false (by omega)
      have d3 : decide (v.f4.length ≤ i) = false := decide_eq_false (by omega)
      have i0 : (0 : Int) ≤ (i : Int) := by omega
      have i1 : (i : Int) < (v.f4.length : Int) := by omega
      obtain ⟨ad, X3, e3, X4, e4, hA, fx, x0, x1, x2, x3, x4⟩ := elt hv0.2.2.2 i hi
      subst hA
      generalize v.f4[i] = y at *
      clear hk HNO HYES
      go_wp2
      (try simp only [Exit.inBlock, Exit.then]); refine bodyPost_ret (results_ct rfl _ _ _ 25 _ (0, 0) _ rfl (stored kR _ _ _ _ _) Try.underlying25 rfl (by kernel_rfl)) rfl ?_
      exact TOut.yes (below_stored b1 (by omega) _ _ _ _ _) HN.out (fx.stored (fun k hk => by have := hok k hk; omega) _ _ _ _ _)
    · have HN := Aside0.mk (HNO.out (fun h => by omega))
      have a1 : decide (v.f0 = 8) = true := decide_eq_true hk
      have a2 : (v.f0 == 8) = true := by simpa using hk
      have a3 : (v.f0 != 8) = false := by simpa using hk
      have d2 : decide ((v.f4.length : Int) ≤ (i : Int)) = true := decide_eq_true (by omega)
      have d3 : decide (v.f4.length ≤ i) = true := decide_eq_true (by omega)
      clear hk HNO HYES
      go_wp2
      (try simp only [Exit.inBlock, Exit.then]); refine bodyPost_ret (results_ct rfl _ _ _ 25 _ (0, 0) _ rfl (stored kR _ _ _ _ _) Try.underlying25 rfl (by kernel_rfl)) rfl ?_
      exact TOut.no (below_stored b1 (by omega) _ _ _ _ _) HN.out
  · have HN := Aside0.mk (HNO.out (fun h => hk h.1))
    have a1 : decide (v.f0 = 8) = false := decide_eq_false hk
    have a2 : (v.f0 == 8) = false := by simpa using hk
    have a3 : (v.f0 != 8) = true := by simpa using hk
    clear HNO HYES
    go_wp2
    (try simp only [Exit.inBlock, Exit.then]); refine bodyPost_ret (results_ct rfl _ _ _ 25 _ (0, 0) _ rfl (stored kR _ _ _ _ _) Try.underlying25 rfl (by kernel_rfl)) rfl ?_
    exact TOut.no (below_stored b1 (by omega) _ _ _ _ _) HN.out
end Go.Proofs.Ytnfnhjhnfdkinaa.PConvBack
